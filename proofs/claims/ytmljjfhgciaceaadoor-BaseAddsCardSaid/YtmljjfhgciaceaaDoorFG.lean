/- Texts of mine that come as one: FlushA PutW Flush. -/
import Derived.Test.YtmljjfhgciaceaaDoorHd
import Derived.Test.YtmljjfhgciaceaaDoorSP
import Derived.Test.YtmljjfhgciaceaaDoorPU
import Derived.Maps.AppendAt
namespace Go.Proofs.YtmljjfhgciaceaaDoor
open Go.RowKit
section
variable {y:aC} {n:Int} {rs:List Raw} {i b k oC B bb j f g o M xb eb:Nat} {F:Nat->Prop} {x:Nd} {r:Raw} {t t' t2:Tr} {dv nv:Value} {w wr w3 w9 nQ a wx wy:World}
theorem mY {ops:Array Oper} {rest:List Oper} {o:Oper} {a:Act} {Q:Exit->Act->World->Prop} (hgd:o.guard=none) (s x:Operand)
  (ho:o.op = .call { callee:= .builtin .append,args:=#[s,x],argTypes:=#[63,63] }) (B:Nat) (v:Value) (es:List aC) (hs:a.eval s=v) (hown:au B w v es)
  (ad:Addr) (e:aC) (hx:a.eval x = .slice (some ad) 1 1) (hnews:∀j u,(aZ e)[j]?=some u->w.cell? (ad.add j)=some u) (hlen:es.length<=1000000) (hbase:B<=w.heap.size)
  (h:∀v' w',au B w' v' (es++[e])->w.grownBy w' v.ownBlock->(v'.ownBlock=v.ownBlock\/v'.ownBlock=some w.heap.size)->wpList Tryd.prog ops Q rest (a.put o.dst v') w'):wpList Tryd.prog ops Q (o::rest) a w:=by
 obtain⟨i0,z,hi,hz,hz1,hz2,hz3⟩:=cj Tryd.GH
 refine wpList_append_own_at w hgd s x 63 ho B 96 i0 z 7 56 Tryd.underlying63 hi hz hz1 hz2 hz3 aW v es.length _ hs hown.row ad 1 1 (aZ e) hx rfl hnews (jc [e] |> fun h u hu=>h u (by simpa using hu)) (by unfold maxLen;omega) af hbase ?_
 intro v' w' hown' hg _ h4
 refine h v' w' ?_ hg h4
 have:(es++[e]).flatMap aZ=es.flatMap aZ++aZ e:=bj
 refine⟨?_⟩
 rw [this,dO]
 exact hown'
def Qq (f:Nat):Prop:=∀{M:Nat} {w:World} {bb:Nat} {nv:Value} {rs:List Raw} {t t':Tr} {n:Int} {e:aC} {more key:Int},Bd M w bb nv rs t->qQ f t n e=some (t',more,key) ->
 Calls Tryd.prog 75 #[.pointer (some ⟨bb,0,none⟩), .int .i64 n, .agg #[.int .i64 e.key, .int .i64 e.is.c, .int .i64 e.is.s, .int .i64 e.is.mi, .int .i64 e.is.ma, .int .i64 e.is.t, .int .i64 e.is.l]] w
  fun x w'=>x = .returned (.tuple #[.int .i64 more, .int .i64 key])/\kO M bb (dA bb nv rs) w t' w'
theorem Py (h:i<=3):i=0\/i=1\/i=2\/i=3:=af
theorem J8 {a0 a1 a2 a3 v:Value} {T:TypeId} {fr:Nat×Nat} (h:w.heap[b]?=some (.cells #[a0,a1,a2,a3] T fr)) (hi:i<=3) :
  (w.setCell ⟨b,i,none⟩ v).heap[b]?=some (.cells #[if 0=i then v else a0,if 1=i then v else a1,if 2=i then v else a2,if 3=i then v else a3] T fr):=by
 have h:=heap_setCell_same (off:=i) (v:=v) h
 rw [h]
 rcases Py hi with rfl|rfl|rfl|rfl <;> simp
theorem Mt {m:Nat->Nat} (hk:k<4) (w:World):(Instr.index 174 (.agg #[.int .i64 (m 0:Nat), .int .i64 (m 1:Nat), .int .i64 (m 2:Nat), .int .i64 (m 3:Nat)]) (.int .i64 (k:Nat))).run Tryd.prog w = .ok (.int .i64 (m k:Nat)) w:=by
 unfold Instr.index
 rcases vA hk with rfl|rfl|rfl|rfl <;> simp [go_sem]
theorem E6 (m:Nat->Nat):∀k,k<=4->iU m k<=3
 |0,_=>by unfold iU;omega
 |k+1,h=>by
  have:=E6 m k af
  unfold iU
  split <;> omega
def cnt (x:Nd) (k j:Nat):Nat:=((x.buf.take k).filter fun e=>decide (aU x.keys e.key=j)).length
theorem EB {put:Tr->Int->aC->Option (Tr×Int×Int)} (hF:oz put t n=some t'):∃x,t.dh n=some x/\x.keys.Pairwise (·<·)/\x.keys.length<=3/\x.buf.length<=20/\Checked x.buf /\
  sN put n (x.buf.filter fun e=>decide (aU x.keys e.key=iU (iP x) 4)) (x.buf.filter fun e=>decide (aU x.keys e.key=iU (iP x) 4))
    (cG t n { x with buf:=x.buf.filter fun e=>!decide (aU x.keys e.key=iU (iP x) 4) })=some t':=by
 unfold oz at hF
 split at hF
 ·cases hF
 ·rename_i x hx
  split at hF
  ·rename_i hg
   exact⟨x,hx,hg.1,hg.2.1,hg.2.2.1,hg.2.2.2,hF⟩
  ·cases hF
theorem Ny (hk:k<x.buf.length) (j:Nat):cnt x (k+1) j=if j=aU x.keys x.buf[k].key then cnt x k j+1 else cnt x k j:=by
 unfold cnt
 rw [kK hk,rF,dO]
 by_cases h:aU x.keys x.buf[k].key=j
 ·rw [ar h.symm,rG (by simpa using h)];simp
 ·rw [ai (Ne.symm h),qB (by simpa using h)];simp
theorem TY (x:Nd) (k j:Nat):cnt x k j<=x.buf.length:=by
 unfold cnt
 exact ik (sH _ _) (by rw [eP];omega)
theorem yH (x:Nd) (j:Nat):cnt x x.buf.length j=iP x j:=by unfold cnt iP;rw [List.take_length]
def Fv (x:Nd) (k:Nat):Array Value:=#[.int .i64 (cnt x k 0:Nat), .int .i64 (cnt x k 1:Nat), .int .i64 (cnt x k 2:Nat), .int .i64 (cnt x k 3:Nat)]
def R3 (x:Nd) (oC B:Nat) (wr w3:World) (k:Nat) (dv sv:Value):Prop:=
 Below B wr w3/\au B w3 dv ((x.buf.take k).filter fun e=>decide (aU x.keys e.key=oC))/\au B w3 sv ((x.buf.take k).filter fun e=>!decide (aU x.keys e.key=oC))/\∀b,sv.ownBlock=some b->dv.ownBlock≠some b
theorem R3.down {sv v:Value} (h:R3 x oC B wr w3 k dv sv) (hB:B<=wr.heap.size) (hlt:k<x.buf.length) (hk:aU x.keys x.buf[k].key=oC) (h9:ah w3 w9)
  (ho:au B nQ v (((x.buf.take k).filter fun e=>decide (aU x.keys e.key=oC))++[x.buf[k]])) (hg:w9.grownBy nQ dv.ownBlock) (hv:v.ownBlock=dv.ownBlock\/v.ownBlock=some w9.heap.size):R3 x oC B wr nQ (k+1) v sv:=by
 obtain⟨h1,h2,h3,h4⟩:=h
 have hs1:=h1.size
 have A3:=h9.size
 refine⟨Below.grown (Below.trans' h1 h9 af) hg af fun j hj=>(h2.lt j hj).1,?_,?_,fun b hb hb'=>?_⟩
 ·rw [kK hlt,rF,rG (by simpa using hk)]
  exact ho
 ·rw [kK hlt,rF,qB (by simpa using hk),List.filter_nil,oL]
  exact h3.block fun b hb=>(hg.block b (by have:=(h3.lt b hb).2;omega) (fun e=>h4 b hb e.symm)).trans (h9.block b (h3.lt b hb).2)
 ·rcases hv with hv|hv
  ·exact h4 b hb (hv▸hb')
  ·have:=(h3.lt b hb).2
   rw [hv]at hb';injection hb' with hb';omega
theorem R3.stay {sv v:Value} (h:R3 x oC B wr w3 k dv sv) (hB:B<=wr.heap.size) (hlt:k<x.buf.length) (hk:¬aU x.keys x.buf[k].key=oC) (h9:ah w3 w9)
  (ho:au B nQ v (((x.buf.take k).filter fun e=>!decide (aU x.keys e.key=oC))++[x.buf[k]])) (hg:w9.grownBy nQ sv.ownBlock) (hv:v.ownBlock=sv.ownBlock\/v.ownBlock=some w9.heap.size):R3 x oC B wr nQ (k+1) dv v:=by
 obtain⟨h1,h2,h3,h4⟩:=h
 have hs1:=h1.size
 have A3:=h9.size
 refine⟨Below.grown (Below.trans' h1 h9 af) hg af fun j hj=>(h3.lt j hj).1,?_,?_,fun b hb hb'=>?_⟩
 ·rw [kK hlt,rF,qB (by simpa using hk),List.filter_nil,oL]
  exact h2.block fun b hb=>(hg.block b (by have:=(h2.lt b hb).2;omega) (fun e=>h4 b e.symm hb)).trans (h9.block b (h2.lt b hb).2)
 ·rw [kK hlt,rF,rG (by simpa using hk)]
  exact ho
 ·rcases hv with hv|hv
  ·exact h4 b (hv▸hb) hb'
  ·have:=(h2.lt b hb').2
   rw [hv]at hb;injection hb with hb;omega
theorem BO {v:Value} (hr:rs[j]?=some r) (hf:f<4) (h:dA bb nv (rs.set j (r.sx f v)) b):dA bb nv rs b\/v.ownBlock=some b:=by
 rcases h with rfl|h|⟨i,s,g,hs,hb⟩
 ·exact .inl (.inl rfl)
 ·exact .inl (.inr (.inl h))
 ·by_cases hi:i=j
  ·subst hi
   rw [List.getElem?_set_self (gJ.1 hr).1]at hs
   obtain rfl:=cY hs
   by_cases hg:g=f
   ·subst hg;rw [Raw.vN r hf]at hb;exact .inr hb
   ·rw [Raw.Co r hf v hg]at hb;exact .inl (.inr (.inr ⟨i,r,g,hr,hb⟩))
  ·rw [Bc (Ne.symm hi)]at hs;exact .inl (.inr (.inr ⟨i,s,g,hs,hb⟩))
theorem IM (x:Nd) (B:List aC):∀g,g≠3->Nd.fN { x with buf:=B } g=x.fN g/\Nd.fC { x with buf:=B } g=x.fC g:=fun g hg=>by
 rcases lH g 4 with h4|h4
 ·rcases vA h4 with rfl|rfl|rfl|rfl <;> first|exact⟨rfl,rfl⟩|exact absurd rfl hg
 ·obtain⟨k,rfl⟩:∃k,g=k+4:=⟨g-4,af⟩;exact⟨rfl,rfl⟩
theorem Pw (x:Nd) (B:List Int):∀g,g≠1->Nd.fN { x with keys:=B } g=x.fN g/\Nd.fC { x with keys:=B } g=x.fC g:=fun g hg=>by
 rcases lH g 4 with h4|h4
 ·rcases vA h4 with rfl|rfl|rfl|rfl <;> first|exact⟨rfl,rfl⟩|exact absurd rfl hg
 ·obtain⟨k,rfl⟩:∃k,g=k+4:=⟨g-4,af⟩;exact⟨rfl,rfl⟩
theorem Pv (x:Nd) (B:List Int):∀g,g≠2->Nd.fN { x with kids:=B } g=x.fN g/\Nd.fC { x with kids:=B } g=x.fC g:=fun g hg=>by
 rcases lH g 4 with h4|h4
 ·rcases vA h4 with rfl|rfl|rfl|rfl <;> first|exact⟨rfl,rfl⟩|exact absurd rfl hg
 ·obtain⟨k,rfl⟩:∃k,g=k+4:=⟨g-4,af⟩;exact⟨rfl,rfl⟩
theorem Jx (t:Tr) (n:Int) (x y:Nd):cG (cG t n x) n y=cG t n y:=by simp [cG]
theorem Hp {put:Tr->Int->aC->Option (Tr×Int×Int)} {all ds:List aC} {e:aC} (h:sN put n all (e::ds) t=some t'):∃x k t1 more key t2 z,t.dh n=some x/\(x.keys.Pairwise (·<·)/\x.keys.length<=20/\x.kids.length<=20) /\
  x.kids[aU x.keys e.key]?=some k/\put t k e=some (t1,more,key)/\GD t1 n (aU x.keys e.key) more key=some t2/\t2.dh n=some z /\
  ((z.kids.length<=4/\sN put n all ds t2=some t')\/(¬z.kids.length<=4/\(all.filter fun d=>decide (e.key<d.key)).foldlM (oU n) t2=some t')):=by
 unfold sN at h
 split at h
 ·cases h
 rename_i x hx
 by_cases hk:x.keys.Pairwise (·<·)/\x.keys.length<=20/\x.kids.length<=20
 ·rw [ar hk]at h
  split at h
  ·cases h
  rename_i k hk2
  split at h
  ·cases h
  rename_i t1 more key hp
  split at h
  ·cases h
  rename_i t2 ht2
  split at h
  ·cases h
  rename_i z hz
  refine⟨x,k,t1,more,key,t2,z,hx,hk,hk2,hp,ht2,hz,?_⟩
  by_cases h4:z.kids.length<=4
  ·rw [ar h4]at h;exact .inl ⟨h4,h⟩
  ·rw [ai h4]at h;exact .inr ⟨h4,h⟩
 ·rw [ai hk]at h;cases h
theorem JV {t1:Tr} {more key:Int} (h:GD t1 n i more key=some t2):(more<0/\t2=t1)\/(0<=more/\∃y,t1.dh n=some y/\i<=y.keys.length/\i+1<=y.kids.length/\y.kids.length<=20/\y.keys.length<=20 /\
  t2=cG t1 n { y with keys:=y.keys.take i++key::y.keys.drop i,kids:=y.kids.take (i+1)++more::y.kids.drop (i+1) }):=by
 unfold GD at h
 by_cases hm:more<0
 ·rw [ar hm]at h;exact .inl ⟨hm,(cY h).symm⟩
 ·rw [ai hm]at h
  split at h
  ·cases h
  rename_i y hy
  split at h
  ·rename_i hg
   exact .inr ⟨af,y,hy,hg.1,hg.2.1,hg.2.2.1,hg.2.2.2,(cY h).symm⟩
  ·cases h
theorem oQ (h:aa0 (fun b=>b=g) a w) (v:Value):aa0 (fun b=>b=g) a (w.setCell ⟨g,o,none⟩ v):=aa0.setCell (p:=⟨g,o,none⟩) h (Or.inl (Eq.refl g)) v
theorem Jt (h:aa0 (fun b=>b=g) a w) (v0 v1 v2 v3 v4:Value):aa0 (fun b=>b=g) a (((((w.setCell ⟨g,0,none⟩ v0).setCell ⟨g,1,none⟩ v1).setCell ⟨g,2,none⟩ v2).setCell ⟨g,3,none⟩ v3).setCell ⟨g,4,none⟩ v4):=
 oQ (oQ (oQ (oQ (oQ h v0) v1) v2) v3) v4
def R4 (M bb:Nat) (F:Nat->Prop) (w wr:World) (xb:Nat) (dv:Value) (put:Tr->Int->aC->Option (Tr×Int×Int)) (n:Int) (down rest:List aC) (t':Tr):Prop:=
 ∃kY fO tk a0 a1 a2 a3 a4,Bd M wr bb kY fO tk/\nG F (dA bb kY fO) w wr/\au M wr dv down/\(∀b,dv.ownBlock=some b->¬dA bb kY fO b)/\wr.heap[xb]?=some (.cells #[a0,a1,a2,a3,a4] 119)/\¬dA bb kY fO xb/\dv.ownBlock≠some xb/\sN put n down rest tk=some t'
structure Q5 (M bb:Nat) (F:Nat->Prop) (w wx:World) (xb eb:Nat) (dv:Value) (down:List aC) (y:aC) (nv:Value) (rs:List Raw) (t:Tr):Prop where
 bd:Bd M wx bb nv rs t
 ZJ:nG F (dA bb nv rs) w wx
 own:au M wx dv down
 off:∀b,dv.ownBlock=some b->¬dA bb nv rs b
 box:∃a0 a1 a2 a3 a4,wx.heap[xb]?=some (.cells #[a0,a1,a2,a3,a4] 119)
 gL:¬dA bb nv rs xb
 dx:dv.ownBlock≠some xb
 Vk:wx.heap[eb]?=some (.cells #[.int .i64 y.key, .int .i64 y.is.c, .int .i64 y.is.s, .int .i64 y.is.mi, .int .i64 y.is.ma, .int .i64 y.is.t, .int .i64 y.is.l] 96)
 eB:¬dA bb nv rs eb
theorem Q5.step {down:List aC} {VJ:Value} {Om:List Raw} (h:Q5 M bb F w wx xb eb dv down y nv rs t) (hB:Bd M wy bb VJ Om t2)
  (hS:nG (dA bb nv rs) (dA bb VJ Om) wx wy):Q5 M bb F w wy xb eb dv down y VJ Om t2:=by
 obtain⟨o1,o2⟩:=Dx h.own hS h.off
 obtain⟨a0,a1,a2,a3,a4,hb⟩:=h.box
 obtain⟨x1,x2⟩:=hS.stay (eI.1 hb).1 h.gL
 obtain⟨e1,e2⟩:=hS.stay (eI.1 h.Vk).1 h.eB
 exact⟨hB,h.ZJ.trans hS,o1,o2,⟨a0,a1,a2,a3,a4,x1.trans hb⟩,x2,h.dx,e1.trans h.Vk,e2⟩
theorem Q5.below {down:List aC} (h:Q5 M bb F w wx xb eb dv down y nv rs t) (hb:ah wx wy) :
  Q5 M bb F w wy xb eb dv down y nv rs t:=h.step (h.bd.below hb aH) (nG.of hb aH)
theorem Q5.r4 {down rest:List aC} {put:Tr->Int->aC->Option (Tr×Int×Int)} (h:Q5 M bb F w wx xb eb dv down y nv rs t)
  (hd:sN put n down rest t=some t'):R4 M bb F w wx xb dv put n down rest t':=by
 obtain⟨a0,a1,a2,a3,a4,hb⟩:=h.box
 exact⟨_,_,_,_,_,_,_,_,h.bd,h.ZJ,h.own,h.off,hb,h.gL,h.dx,hd⟩
theorem Bd.insert {W5:World} {nb cap vb:Nat} {key:Int} {x':Nd} {es:List Int} (h:Bd M w bb (.slice (some ⟨nb,0,none⟩) rs.length cap) rs t) (hr:rs[j]?=some r) (hx:t.nodes[j]?=some x) (hf:f=1\/f=2)
  (hes:bw M w (r.lR f) es) (hi:i<=es.length) (hlen:es.length<=100000) (h5:ah w W5) (hvb:W5.heap[vb]?=some (.cells #[.int .i64 key] 3)) (hvl:w.heap.size<=vb)
  (hl:x'.leaf=x.leaf) (ho:∀g,g≠f->x'.fN g=x.fN g/\x'.fC g=x.fC g) (hN:x'.fN f=(es.take i++key::es.drop i).length) (hC:x'.fC f=(es.take i++key::es.drop i).flatMap bX) (hoff:o=j*5+(f+1)) :
  Calls Tryd.prog 118 #[r.lR f, .int .i64 i, .slice (some ⟨vb,0,none⟩) 1 1] W5 fun e w'=>∃so n sc,e = .returned (.slice so n sc)/\aa0 (fun b=>(r.lR f).ownBlock=some b) w w' /\
   Bd M (w'.setCell ⟨nb,o,none⟩ (.slice so n sc)) bb (.slice (some ⟨nb,0,none⟩) rs.length cap) (rs.set j (r.sx f (.slice so n sc))) (cG t j x') /\
   nG (dA bb (.slice (some ⟨nb,0,none⟩) rs.length cap) rs) (dA bb (.slice (some ⟨nb,0,none⟩) rs.length cap) (rs.set j (r.sx f (.slice so n sc)))) w (w'.setCell ⟨nb,o,none⟩ (.slice so n sc)):=by
 have qz:=(h.lt bb (.inl rfl)).1
 have hbl:=(h.lt bb (.inl rfl)).2
 have hs5:=h5.size
 have he5:=hes.below h5 aH
 refine(Ea (x:=key) he5 hi af hlen hvb (fun e=>by have:=(hes.lt vb e).2;omega)).mono ?_
 rintro e w' ⟨v',rfl,hown,hg,hv⟩
 obtain⟨so,sc,rfl⟩:=hown.isSlice
 have hT:aa0 (fun b=>(r.lR f).ownBlock=some b) w w':=(aa0.of h5 aH).trans ⟨hg.os,hg.tape,hg.output,hg.size,fun b hb hne=>hg.block b hb fun e=>hne e.symm⟩
 obtain⟨q1,q2⟩:=h.field (f:=f) rfl hr hx af hT (v':= .slice so (es.take i++key::es.drop i).length sc) (x':=x') (by
   have:=hown.row
   rw [hN,hC]
   rcases hf with rfl|rfl <;> exact this) (fun b hb=>by
   rcases hv with e|e
   ·exact .inl (e▸hb)
   ·rw [e]at hb;injection hb with hb;exact .inr af) hl ho hoff
 exact⟨so,_,sc,rfl,hT,q1,q2⟩
end
section
set_option maxRecDepth 100000
set_option maxHeartbeats 4000000
variable {e:aC} {n:Int} {L:List aC} {rs:List Raw} {M bb f o b:Nat} {x:Nd} {t t':Tr} {nv:Value} {w:World}
theorem Bd.merge {W5:World} {nb cap j:Nat} {r:Raw} {x':Nd} {es:List aC} (h:Bd M w bb (.slice (some ⟨nb,0,none⟩) rs.length cap) rs t) (hr:rs[j]?=some r) (hx:t.nodes[j]?=some x) (hf:f=0\/f=3)
  (hes:au M w (r.lR f) es) (hrow:vk es) (hent:jZ e) (hins:jI es e=some L) (h5:ah w W5)
  (hl:x'.leaf=x.leaf) (ho:∀g,g≠f->x'.fN g=x.fN g/\x'.fC g=x.fC g) (hN:x'.fN f=L.length) (hC:x'.fC f=L.flatMap aZ) (hoff:o=j*5+(f+1)) :
  Calls Tryd.prog 89 #[r.lR f, .agg #[.int .i64 e.key, .int .i64 e.is.c, .int .i64 e.is.s, .int .i64 e.is.mi, .int .i64 e.is.ma, .int .i64 e.is.t, .int .i64 e.is.l]] W5 fun y w'=>∃so sc,y = .returned (.tuple #[.slice so L.length sc, .int .i64 0])/\aa0 (fun b=>(r.lR f).ownBlock=some b) w w' /\
   Bd M (w'.setCell ⟨nb,o,none⟩ (.slice so L.length sc)) bb (.slice (some ⟨nb,0,none⟩) rs.length cap) (rs.set j (r.sx f (.slice so L.length sc))) (cG t j x') /\
   nG (dA bb (.slice (some ⟨nb,0,none⟩) rs.length cap) rs) (dA bb (.slice (some ⟨nb,0,none⟩) rs.length cap) (rs.set j (r.sx f (.slice so L.length sc)))) w (w'.setCell ⟨nb,o,none⟩ (.slice so L.length sc)):=by
 have qz:=(h.lt bb (.inl rfl)).1
 have hbl:=(h.lt bb (.inl rfl)).2
 have hs5:=h5.size
 have hm:=tF (w:=W5) (x:=e) (hes.below h5 aH) af (by have:=hrow.2.2.2;omega) hrow.1 (fun e he=>(hrow.2.1 e he).2) hent.2.1 hrow.2.2.1 hent.2.2
 rw [hins]at hm
 refine hm.mono ?_
 rintro y w' ⟨ht,v',rfl,hown,hv⟩
 obtain⟨so,sc,rfl⟩:=hown.isSlice
 have hT:aa0 (fun b=>(r.lR f).ownBlock=some b) w w':=(aa0.of h5 aH).trans ht
 obtain⟨q1,q2⟩:=h.field (f:=f) rfl hr hx af hT (v':= .slice so L.length sc) (x':=x') (by
   have:=hown.row
   rw [hN,hC]
   rcases hf with rfl|rfl <;> exact this) (fun b hb=>by
   rcases hv b hb with e|e
   ·exact .inl e
   ·exact .inr af) hl ho hoff
 exact⟨so,sc,rfl,hT,q1,q2⟩
theorem BG {l:List aC} (h:ye l e=some L):vk l/\jZ e/\jI l e=some L:=by
 unfold ye at h
 split at h
 ·rename_i hg;exact⟨hg.1,hg.2,h⟩
 ·cases h
theorem JC {more key:Int} (h:qQ (f+1) t n e=some (t',more,key)):∃x,t.dh n=some x /\
  ((x.leaf=true/\∃L,ye x.aF e=some L/\gW (cG t n { x with aF:=L }) n=some (t',more,key)) \/
  (x.leaf=false/\∃L,ye x.buf e=some L/\((L.length<=8/\gW (cG t n { x with buf:=L }) n=some (t',more,key)) \/
    (¬L.length<=8/\∃t2,oz (qQ f) (cG t n { x with buf:=L }) n=some t2/\gW t2 n=some (t',more,key))))):=by
 unfold qQ at h
 split at h
 ·cases h
 rename_i x hx
 refine⟨x,hx,?_⟩
 split at h
 ·rename_i hl
  split at h
  ·cases h
  rename_i L hL
  exact .inl ⟨hl,L,hL,h⟩
 ·rename_i hl
  split at h
  ·cases h
  rename_i L hL
  refine .inr ⟨by simpa using hl,L,hL,?_⟩
  split at h
  ·rename_i h8;exact .inl ⟨h8,h⟩
  ·rename_i h8
   split at h
   ·cases h
   rename_i t2 ht2
   exact .inr ⟨h8,t2,ht2,h⟩
theorem jW {o':Nat} {v u:Value} (h:o≠o') (hq:w.cell? ⟨b,o',none⟩=some u):(w.setCell ⟨b,o,none⟩ v).cell? ⟨b,o',none⟩=some u:=by
 unfold World.cell? at hq ⊢
 simp only at hq ⊢
 split at hq
 ·rename_i c e fr hb
  rw [heap_setCell_same hb]
  simp only [Option.isSome_none]at hq ⊢
  rw [ai bj]at hq ⊢
  rw [Array.getElem?_setIfInBounds_ne h];exact hq
 ·cases hq
theorem kH {v u:Value} (hq:w.cell? ⟨b,o,none⟩=some u):(w.setCell ⟨b,o,none⟩ v).cell? ⟨b,o,none⟩=some v:=by
 unfold World.cell? at hq ⊢
 simp only at hq ⊢
 split at hq
 ·rename_i c e fr hb
  rw [heap_setCell_same hb]
  simp only [Option.isSome_none]at hq ⊢
  rw [ai bj]at hq ⊢
  have:=(eI.1 hq).1
  simp [this]
 ·cases hq
theorem Px (x:Nd) (B:List aC):∀g,g≠0->Nd.fN { x with aF:=B } g=x.fN g/\Nd.fC { x with aF:=B } g=x.fC g:=fun g hg=>by
 rcases lH g 4 with h4|h4
 ·rcases vA h4 with rfl|rfl|rfl|rfl <;> first|exact⟨rfl,rfl⟩|exact absurd rfl hg
 ·obtain⟨k,rfl⟩:∃k,g=k+4:=⟨g-4,af⟩;exact⟨rfl,rfl⟩
def Iu (f:Nat):Prop:=∀{M:Nat} {w:World} {bb:Nat} {nv:Value} {rs:List Raw} {t t':Tr} {n:Int},Bd M w bb nv rs t->oz (qQ f) t n=some t' ->
  Calls Tryd.prog 97 #[.pointer (some ⟨bb,0,none⟩), .int .i64 n] w fun e w'=>e = .returned (.tuple #[])/\kO M bb (dA bb nv rs) w t' w'
theorem LP {more key:Int} (h:Bd M w bb nv rs t) (hx:t.dh n=some x) (Ox:x.leaf=true) (hins:ye x.aF e=some L)
  (hF:gW (cG t n { x with aF:=L }) n=some (t',more,key)) :
  Calls Tryd.prog 75 #[.pointer (some ⟨bb,0,none⟩), .int .i64 n, .agg #[.int .i64 e.key, .int .i64 e.is.c, .int .i64 e.is.s, .int .i64 e.is.mi, .int .i64 e.is.ma, .int .i64 e.is.t, .int .i64 e.is.l]] w
  fun y w'=>y = .returned (.tuple #[.int .i64 more, .int .i64 key])/\kO M bb (dA bb nv rs) w t' w':=by
 obtain⟨hrow,hent,hins⟩:=BG hins
 obtain⟨j,nb,cap,r,rfl,rfl,kR,sF,hjl,hown⟩:=h.place hx
 have hvl:=hown.leaf
 rw [Ox]at hvl
 obtain⟨so,sc,hev⟩:=hown.aF.isSlice
 obtain⟨W1,hW1⟩:=bP (w.alloc (.cells #[.int .i64 e.key, .int .i64 e.is.c, .int .i64 e.is.s, .int .i64 e.is.mi, .int .i64 e.is.ma, .int .i64 e.is.t, .int .i64 e.is.l] 96))
 have hb1:ah w W1:=by rw [hW1];exact ag
 have hz1:W1.heap.size=w.heap.size+1:=by rw [hW1];simp
 have k1:W1.heap[w.heap.size]?=some (.cells #[.int .i64 e.key, .int .i64 e.is.c, .int .i64 e.is.s, .int .i64 e.is.mi, .int .i64 e.is.ma, .int .i64 e.is.t, .int .i64 e.is.l] 96):=by rw [hW1];exact aj _ _ rfl
 have h1:=h.below hb1 aH
 obtain⟨c0,l0,e1,e2,e3,e4,wG,FA,hbl,hnl,vC⟩:=h1.cells kR
 rw [hvl]at l0
 have cR:=e1
 rw [hev]at cR
 have HCF:=hdd wG
 have hen:w.heap.size≠nb:=fun e=>by have:=(h.lt nb (.inr (.inl rfl))).2;omega
 have iu:=fun w'=>dR (ab:=nb) (aV:=0) (n:=rs.length) (cap:=cap) (show (j:Int)=((j:Nat):Int) by rfl) hjl w'
 simp only [iW]at iu
 have HM:=hdd fun(W5:World) (h5:ah W1 W5)=>h1.merge (j:=j) (f:=0) (x':={ x with aF:=L }) kR sF (.inl rfl) (h1.Cu j r x kR sF).aF hrow hent hins h5 rfl (Px x L) rfl rfl (o:=j*5+1) rfl
 have N3:=hdd (aL hb1 (aL h1 (aL kR sF)))
 have Ij:=hdd k1
 have fp:=hdd hev
 have Ux:=hdd (show (Value.slice so x.aF.length sc).ownBlock≠some nb from fun hh=>(h1.off j r 0 nb kR (by show r.ev.ownBlock=_;rw [hev];exact hh)).2 rfl)
 have RF:=hdd (show (Value.slice so x.aF.length sc).ownBlock≠some w.heap.size from fun hh=>by have:=(h.lt w.heap.size (.inr (.inr ⟨j,r,0,kR,by show r.ev.ownBlock=_;rw [hev];exact hh⟩))).2;omega)
 have Il:=hdd hF
 clear h h1 hx hins hrow hent kR sF hown hb1 e1 e2 e3 e4 FA hvl Ox k1 hev hF wG
 go_enter Tryd.func75,Tryd.ntmps75
 go_upto_region 1 with (fail)
 rw [<-hW1]
 clear hW1
 go_upto_region 5 with (fail)
 have K5:∀(W:World),W.heap[w.heap.size]?=W1.heap[w.heap.size]?->(W.cell? ⟨w.heap.size,0,none⟩=some (.int .i64 e.key)/\W.cell? ⟨w.heap.size,1,none⟩=some (.int .i64 e.is.c)/\W.cell? ⟨w.heap.size,2,none⟩=some (.int .i64 e.is.s)/\W.cell? ⟨w.heap.size,3,none⟩=some (.int .i64 e.is.mi)/\W.cell? ⟨w.heap.size,4,none⟩=some (.int .i64 e.is.ma)/\W.cell? ⟨w.heap.size,5,none⟩=some (.int .i64 e.is.t)/\W.cell? ⟨w.heap.size,6,none⟩=some (.int .i64 e.is.l)):=fun W hW=>by
  have:=hW.trans Ij.out
  simp [World.cell?,this]
 have Xg:=K5 W1.drew rfl
 clear K5
 refine bJ [(0,1),(1,1),(2,0),(3,0),(4,3),(5,1),(6,1),(7,1),(8,1),(9,1)] 4
  (fun W=>W.cell? ⟨nb,j*5+1,none⟩=some (.slice so x.aF.length sc)/\W.cell? ⟨w.heap.size,0,none⟩=some (.int .i64 e.key)/\W.cell? ⟨w.heap.size,1,none⟩=some (.int .i64 e.is.c)/\W.cell? ⟨w.heap.size,2,none⟩=some (.int .i64 e.is.s)/\W.cell? ⟨w.heap.size,3,none⟩=some (.int .i64 e.is.mi)/\W.cell? ⟨w.heap.size,4,none⟩=some (.int .i64 e.is.ma)/\W.cell? ⟨w.heap.size,5,none⟩=some (.int .i64 e.is.t)/\W.cell? ⟨w.heap.size,6,none⟩=some (.int .i64 e.is.l)) bT bT ⟨cR,Xg⟩ ?_
 clear Xg
 (simp only [bG,List.filterMap_cons,List.filterMap_nil,List.getElem?_cons_zero,List.getElem?_cons_succ,Option.map_some])
 (repeat first|refine aY ?_|refine aX ?_)
 refine bn rfl (fun K hK=>?_)
 go_simp
 have Ob:=HM.out W1.drew (aI _ _).drew
 rw [show r.lR 0 = .slice so x.aF.length sc from fp.out]at Ob
 (with_reducible refine Ob.mono ?_);rintro y w5 ⟨s5,c5,rfl,qq,Xw,Xf⟩
 clear Ob
 go_simp
 refine hK _ _ ?_
 clear hK K
 (repeat first|refine aY ?_|refine aX ?_)
 refine cy ?_
 have q4:w5.cell? ⟨nb,j*5+1,none⟩=some (.slice so x.aF.length sc):=(qq.cell hnl Ux.out _).trans cR
 have qf:w5.frozen? ⟨nb,j*5+1,none⟩=false:=(qq.frozen hnl Ux.out _).trans (HCF.out _)
 have q0:w5.cell? ⟨nb,j*5,none⟩=some (.bool true):=(qq.cell hnl Ux.out _).trans l0
 have Cc:=hdd (aL Xw Xf)
 clear qq Xw Xf cR l0 c0
 go_upto_region 10 with (fail)
 obtain⟨W6,tV⟩:=bP (w5.setCell ⟨nb,j*5+1,none⟩ (.slice s5 L.length c5))
 have l6:W6.cell? ⟨nb,j*5,none⟩=some (.bool true):=by
  rw [tV];exact jW af q0
 have HC:=hdd (vM (tV▸Cc.out.1) Il.out)
 have Zg:=hdd (tV▸Cc.out.2)
 rw [<-tV]
 clear tV q4 qf q0
 go_wp2_with (go_at_call 96;(with_reducible refine HC.out.mono ?_);rintro y w7 ⟨rfl,Wj⟩)
 go_ret2
 obtain⟨kY,fO,p1,p2⟩:=Wj
 exact⟨rfl,kY,fO,p1,((nG.of N3.out.1 aH).trans Zg.out).trans p2⟩
theorem JB (G1:Iu f) {more key:Int} (h:Bd M w bb nv rs t) (hx:t.dh n=some x) (Ox:x.leaf=false) (hins:ye x.buf e=some L)
  (hF:(L.length<=8/\gW (cG t n { x with buf:=L }) n=some (t',more,key))\/(¬L.length<=8/\∃t2,oz (qQ f) (cG t n { x with buf:=L }) n=some t2/\gW t2 n=some (t',more,key))) :
  Calls Tryd.prog 75 #[.pointer (some ⟨bb,0,none⟩), .int .i64 n, .agg #[.int .i64 e.key, .int .i64 e.is.c, .int .i64 e.is.s, .int .i64 e.is.mi, .int .i64 e.is.ma, .int .i64 e.is.t, .int .i64 e.is.l]] w
  fun y w'=>y = .returned (.tuple #[.int .i64 more, .int .i64 key])/\kO M bb (dA bb nv rs) w t' w':=by
 obtain⟨hrow,hent,hins⟩:=BG hins
 obtain⟨j,nb,cap,r,rfl,rfl,kR,sF,hjl,hown⟩:=h.place hx
 have hvl:=hown.leaf
 rw [Ox]at hvl
 obtain⟨so,sc,hev⟩:=hown.buf.isSlice
 obtain⟨W1,hW1⟩:=bP (w.alloc (.cells #[.int .i64 e.key, .int .i64 e.is.c, .int .i64 e.is.s, .int .i64 e.is.mi, .int .i64 e.is.ma, .int .i64 e.is.t, .int .i64 e.is.l] 96))
 have hb1:ah w W1:=by rw [hW1];exact ag
 have hz1:W1.heap.size=w.heap.size+1:=by rw [hW1];simp
 have k1:W1.heap[w.heap.size]?=some (.cells #[.int .i64 e.key, .int .i64 e.is.c, .int .i64 e.is.s, .int .i64 e.is.mi, .int .i64 e.is.ma, .int .i64 e.is.t, .int .i64 e.is.l] 96):=by rw [hW1];exact aj _ _ rfl
 have h1:=h.below hb1 aH
 obtain⟨c0,l0,e1,e2,e3,e4,wG,FA,hbl,hnl,vC⟩:=h1.cells kR
 rw [hvl]at l0
 have cR:=e4
 rw [hev]at cR
 have HCF:=hdd wG
 have hen:w.heap.size≠nb:=fun e=>by have:=(h.lt nb (.inr (.inl rfl))).2;omega
 have iu:=fun w'=>dR (ab:=nb) (aV:=0) (n:=rs.length) (cap:=cap) (show (j:Int)=((j:Nat):Int) by rfl) hjl w'
 simp only [iW]at iu
 have HM:=hdd fun(W5:World) (h5:ah W1 W5)=>h1.merge (j:=j) (f:=3) (x':={ x with buf:=L }) kR sF (.inr rfl) (h1.Cu j r x kR sF).buf hrow hent hins h5 rfl (IM x L) rfl rfl (o:=j*5+4) rfl
 have N3:=hdd (aL hb1 (aL h1 (aL kR sF)))
 have Ij:=hdd k1
 have fp:=hdd hev
 have Ux:=hdd (show (Value.slice so x.buf.length sc).ownBlock≠some nb from fun hh=>(h1.off j r 3 nb kR (by show r.bv.ownBlock=_;rw [hev];exact hh)).2 rfl)
 have RF:=hdd (show (Value.slice so x.buf.length sc).ownBlock≠some w.heap.size from fun hh=>by have:=(h.lt w.heap.size (.inr (.inr ⟨j,r,3,kR,by show r.bv.ownBlock=_;rw [hev];exact hh⟩))).2;omega)
 have Il:=hdd hF
 clear h h1 hx hins hrow hent kR sF hown hb1 e1 e2 e3 e4 FA hvl Ox k1 hev hF wG
 go_enter Tryd.func75,Tryd.ntmps75
 go_upto_region 1 with (fail)
 rw [<-hW1]
 clear hW1
 go_upto_region 5 with (fail)
 have K5:∀(W:World),W.heap[w.heap.size]?=W1.heap[w.heap.size]?->(W.cell? ⟨w.heap.size,0,none⟩=some (.int .i64 e.key)/\W.cell? ⟨w.heap.size,1,none⟩=some (.int .i64 e.is.c)/\W.cell? ⟨w.heap.size,2,none⟩=some (.int .i64 e.is.s)/\W.cell? ⟨w.heap.size,3,none⟩=some (.int .i64 e.is.mi)/\W.cell? ⟨w.heap.size,4,none⟩=some (.int .i64 e.is.ma)/\W.cell? ⟨w.heap.size,5,none⟩=some (.int .i64 e.is.t)/\W.cell? ⟨w.heap.size,6,none⟩=some (.int .i64 e.is.l)):=fun W hW=>by
  have:=hW.trans Ij.out
  simp [World.cell?,this]
 have Xg:=K5 W1.drew rfl
 clear K5
 refine bJ [(0,1),(1,1),(2,0),(3,0),(4,3),(5,1),(6,1),(7,1),(8,1),(9,1)] 4
  (fun W=>W.cell? ⟨nb,j*5+4,none⟩=some (.slice so x.buf.length sc)/\W.cell? ⟨w.heap.size,0,none⟩=some (.int .i64 e.key)/\W.cell? ⟨w.heap.size,1,none⟩=some (.int .i64 e.is.c)/\W.cell? ⟨w.heap.size,2,none⟩=some (.int .i64 e.is.s)/\W.cell? ⟨w.heap.size,3,none⟩=some (.int .i64 e.is.mi)/\W.cell? ⟨w.heap.size,4,none⟩=some (.int .i64 e.is.ma)/\W.cell? ⟨w.heap.size,5,none⟩=some (.int .i64 e.is.t)/\W.cell? ⟨w.heap.size,6,none⟩=some (.int .i64 e.is.l)) bT bT ⟨cR,Xg⟩ ?_
 clear Xg
 (simp only [bG,List.filterMap_cons,List.filterMap_nil,List.getElem?_cons_zero,List.getElem?_cons_succ,Option.map_some])
 (repeat first|refine aY ?_|refine aX ?_)
 refine bn rfl (fun K hK=>?_)
 go_simp
 have Ob:=HM.out W1.drew (aI _ _).drew
 rw [show r.lR 3 = .slice so x.buf.length sc from fp.out]at Ob
 (with_reducible refine Ob.mono ?_);rintro y w5 ⟨s5,c5,rfl,qq,Xw,Xf⟩
 clear Ob
 go_simp
 refine hK _ _ ?_
 clear hK K
 (repeat first|refine aY ?_|refine aX ?_)
 refine cy ?_
 have q4:w5.cell? ⟨nb,j*5+4,none⟩=some (.slice so x.buf.length sc):=(qq.cell hnl Ux.out _).trans cR
 have qf:w5.frozen? ⟨nb,j*5+4,none⟩=false:=(qq.frozen hnl Ux.out _).trans (HCF.out _)
 have q0:w5.cell? ⟨nb,j*5,none⟩=some (.bool false):=(qq.cell hnl Ux.out _).trans l0
 have Cc:=hdd (aL Xw Xf)
 clear qq Xw Xf cR l0 c0
 go_upto_region 10 with (fail)
 obtain⟨W6,tV⟩:=bP (w5.setCell ⟨nb,j*5+4,none⟩ (.slice s5 L.length c5))
 have l6:W6.cell? ⟨nb,j*5,none⟩=some (.bool false):=by
  rw [tV];exact jW af q0
 have b6:W6.cell? ⟨nb,j*5+4,none⟩=some (.slice s5 L.length c5):=by rw [tV];exact kH q4
 have pA:=hdd (tV▸Cc.out.1)
 have Zg:=hdd (tV▸Cc.out.2)
 rw [<-tV]
 clear tV q4 qf q0
 rcases Il.out with ⟨h8,hF⟩|⟨h8,t2,hF1,hF2⟩
 ·have HC:=hdd (vM pA.out hF)
  go_wp2_with (go_at_call 96;(with_reducible refine HC.out.mono ?_);rintro y w7 ⟨rfl,Wj⟩)
  go_ret2
  obtain⟨kY,fO,p1,p2⟩:=Wj
  exact⟨rfl,kY,fO,p1,((nG.of N3.out.1 aH).trans Zg.out).trans p2⟩
 ·have HC:=hdd (G1 pA.out hF1)
  go_wp2_with (first
   |(go_at_call 97;(with_reducible refine HC.out.mono ?_);rintro y w7 ⟨rfl,Wj⟩;obtain⟨Z0,UQ,p1,p2⟩:=Wj;have OT:=hdd (aL p1 p2);clear p1 p2)
   |(go_at_call 96;(with_reducible refine(vM OT.out.1 hF2).mono ?_);rintro y w8 ⟨rfl,hp8⟩))
  go_ret2
  obtain⟨kY,fO,p1,p2⟩:=hp8
  exact⟨rfl,kY,fO,p1,(((nG.of N3.out.1 aH).trans Zg.out).trans OT.out.2).trans p2⟩
theorem LO (G1:Iu f):Qq (f+1):=fun h hF=>by
 obtain⟨x,hx,⟨hl,L,hL,hs⟩|⟨hl,L,hL,hs⟩⟩:=JC hF
 ·exact LP h hx hl hL hs
 ·exact JB G1 h hx hl hL hs
end
section
set_option maxRecDepth 100000
set_option maxHeartbeats 6000000
theorem Kf {f:Nat} (hput:Qq f) {M:Nat} {w:World} {bb:Nat} {nv:Value} {rs:List Raw} {t t':Tr} {n:Int} (h:Bd M w bb nv rs t) (hF:oz (qQ f) t n=some t') :
  Calls Tryd.prog 97 #[.pointer (some ⟨bb,0,none⟩), .int .i64 n] w fun e w'=>e = .returned (.tuple #[])/\kO M bb (dA bb nv rs) w t' w':=by
 obtain⟨x,hx,hks,hkl,adF,Es,hF⟩:=EB hF
 obtain⟨oC,M8⟩:=bt (iU (iP x) 4)
 rw [M8]at hF
 obtain⟨j,nb,cap,r,rfl,rfl,kR,sF,hjl,hown⟩:=h.place hx
 obtain⟨c0,k0,k1,k2,k3,k4,wG,FA,hbl,hnl,vC⟩:=h.cells kR
 obtain⟨es,ec,hev⟩:=hown.aF.isSlice
 obtain⟨ks,kc,yC⟩:=hown.keys.isSlice
 obtain⟨ds,dc,BJ⟩:=hown.kids.isSlice
 obtain⟨bs,bc,sj⟩:=hown.buf.isSlice
 have hok:=hown.keys
 have oP:=hown.buf
 rw [yC]at hok
 rw [sj]at oP
 rw [hev]at k1
 rw [yC]at k2
 rw [BJ]at k3
 rw [sj]at k4
 have hM:M<=w.heap.size:=by have:=(h.lt bb (.inl rfl)).1;omega
 have iu:=fun w'=>dR (ab:=nb) (aV:=0) (n:=rs.length) (cap:=cap) (show (j:Int)=((j:Nat):Int) by rfl) hjl w'
 simp only [iW]at iu
 obtain⟨W1,hW1⟩:=bP (w.alloc (.cells #[.bool r.leaf, .slice es x.aF.length ec, .slice ks x.keys.length kc, .slice ds x.kids.length dc, .slice bs x.buf.length bc] 119))
 obtain⟨W2,hW2⟩:=bP (W1.alloc (.cells #[.int .i64 0, .int .i64 0, .int .i64 0, .int .i64 0] 174))
 have hz1:W1.heap.size=w.heap.size+1:=by rw [hW1];simp
 have hz2:W2.heap.size=w.heap.size+2:=by rw [hW2];simp [hz1]
 have hb1:ah w W1:=by rw [hW1];exact ag
 have hb2:ah w W2:=hb1.trans (by rw [hW2];exact(aI _ _).alloc af _)
 have kx:W2.heap[w.heap.size]?=some (.cells #[.bool r.leaf, .slice es x.aF.length ec, .slice ks x.keys.length kc, .slice ds x.kids.length dc, .slice bs x.buf.length bc] 119):=by
  rw [hW2]
  refine((aI W1.heap.size W1).alloc aH _).block _ af |>.trans ?_
  rw [hW1];exact aj _ _ rfl
 have ka:W2.heap[w.heap.size+1]?=some (.cells #[.int .i64 0, .int .i64 0, .int .i64 0, .int .i64 0] 174):=by rw [<-hz1,hW2];exact aj _ _ rfl
 have FJ:=hdd (aL h (aL kR (aL sF (aL hown (aL hF M8)))))
 have vr:=hdd (aL sj (aL yC (aL BJ hev)))
 clear h kR sF hown hF M8 sj yC BJ hev hx
 go_enter Tryd.func97,Tryd.ntmps97
 go_upto_region 2 with (fail)
 rw [<-hW1,<-hW2]
 clear hW1 hW2 c0 k0 k1 k2 k3 k4 wG FA iu
 have hX4:W2.cell? ⟨w.heap.size,4,none⟩=some (.slice bs x.buf.length bc):=by simp [World.cell?,kx]
 have gI:=hdd hb2
 have X7:=hdd kx
 have HKA:=hdd ka
 have Vn:=hdd (aL hok oP)
 have Bh:=hdd (aL hks hkl)
 clear hb1 hb2 kx ka hok oP hks hkl
 go_wp2_with fail
 clear hX4
 go_loopg [31] x.buf.length (fun g i wr=>∃k:Nat,k<=x.buf.length/\g=x.buf.length-k/\i = .int .i64 k/\Hid (ah w wr/\w.heap.size+2<=wr.heap.size/\wr.heap[w.heap.size]?=some (.cells #[.bool r.leaf, .slice es x.aF.length ec, .slice ks x.keys.length kc, .slice ds x.kids.length dc, .slice bs x.buf.length bc] 119)/\wr.heap[w.heap.size+1]?=some (.cells (Fv x k) 174)))
 case atStart=>exact⟨0,jd _,rfl,rfl,hdd ⟨gI.out,af,X7.out,HKA.out⟩⟩
 case round=>
  clear gI X7 HKA
  obtain⟨k,hk,rfl,rfl,HR⟩:=hrel
  by_cases jJ:k<x.buf.length
  ·obtain⟨cZ,UW,kx,ka⟩:=HR.out
   obtain⟨hok,oP⟩:=Vn.out
   obtain⟨hks,hkl⟩:=Bh.out
   obtain⟨_,_,hv,-,-,-,-,h5⟩:=oP.at af
   injection hv with hv1 _ hv3
   subst hv3
   obtain⟨eb,eB,lA,si,nE⟩:=h5 af
   subst lA
   subst hv1
   obtain⟨y0,y1,y2,y3,y4,y5,y6⟩:=bU cZ si nE jJ
   have hcs:=fun i=>Ny jJ i
   obtain⟨y,hy⟩:=bt (x.buf[k])
   rw [hy]at y0 y1 y2 y3 y4 y5 y6 hcs
   have MN:aU x.keys y.key<=3:=by have:=qY x.keys y.key;omega
   have yq:=hdd fun(W:World) (hW:ah w W)=>yx (lf:=r.leaf) (ev:= .slice es x.aF.length ec) (dv:= .slice ds x.kids.length dc) (bv:= .slice (some ⟨eb,eB,none⟩) x.buf.length bc) (x:=y.key) ((hok.at af).below hW aH) hks
   obtain⟨i,hi⟩:=bt (aU x.keys y.key)
   rw [hi]at hcs MN yq
   have Zw:=hdd hcs
   obtain⟨W8,mM⟩:=bP (wr.alloc (.cells #[.int .i64 y.key, .int .i64 y.is.c, .int .i64 y.is.s, .int .i64 y.is.mi, .int .i64 y.is.ma, .int .i64 y.is.t, .int .i64 y.is.l] 96))
   have kS:ah wr W8:=by rw [mM];exact ag
   have Ee:W8.heap.size=wr.heap.size+1:=by rw [mM];simp
   have k8:W8.heap[wr.heap.size]?=some (.cells #[.int .i64 y.key, .int .i64 y.is.c, .int .i64 y.is.s, .int .i64 y.is.mi, .int .i64 y.is.ma, .int .i64 y.is.t, .int .i64 y.is.l] 96):=by rw [mM];exact aj _ _ rfl
   have DX:=(kS.block w.heap.size af).trans kx
   have VT:=(kS.block (w.heap.size+1) af).trans ka
   have uG:=Below.trans' cZ kS cZ.size
   have jS:=fun w'=>dw (ab:=eb) (aV:=eB) (n:=x.buf.length) (cap:=bc) (show (k:Int)=((k:Nat):Int) by rfl) jJ w'
   have s0:W8.cell? ⟨wr.heap.size,0,none⟩=some (.int .i64 y.key):=by simp [World.cell?,k8]
   have x0:W8.cell? ⟨w.heap.size,0,none⟩=some (.bool r.leaf):=by simp [World.cell?,DX]
   have x1:W8.cell? ⟨w.heap.size,1,none⟩=some (.slice es x.aF.length ec):=by simp [World.cell?,DX]
   have x2:W8.cell? ⟨w.heap.size,2,none⟩=some (.slice ks x.keys.length kc):=by simp [World.cell?,DX]
   have x3:W8.cell? ⟨w.heap.size,3,none⟩=some (.slice ds x.kids.length dc):=by simp [World.cell?,DX]
   have x4:W8.cell? ⟨w.heap.size,4,none⟩=some (.slice (some ⟨eb,eB,none⟩) x.buf.length bc):=by simp [World.cell?,DX]
   have eU:=hdd (aL uG (aL DX VT))
   clear cZ kx ka hok oP hks hkl h5 nE hy hi hcs k8 DX VT HR
   go_upto_region 5 with (fail)
   rw [<-mM]
   clear mM kS y0 y1 y2 y3 y4 y5 y6 jS uG
   have aa2:w.heap.size≠w.heap.size+1:=af
   go_wp2_with ((go_at_call 95;(with_reducible refine(yq.out _ eU.out.1).mono ?_);rintro e w9 ⟨rfl,pS⟩;obtain⟨uG,DX,VT⟩:=eU.out;have aah:=uG.size;have JQ:=(pS.block w.heap.size af).trans DX;have UT:=(pS.block (w.heap.size+1) af).trans VT;have M6:=Below.trans' uG pS uG.size;have Sp:w.heap.size+2<=w9.heap.size:=(by have:=pS.size;omega);have hfz:∀o,w9.frozen? ⟨w.heap.size+1,o,none⟩=false:=(fun o=>by simp [World.frozen?,UT,Fv]);obtain⟨ci,WN⟩:=bt (cnt x k i);have hcl:ci<=20:=(by have:=TY x k i;omega);have hai:w9.cell? ⟨w.heap.size+1,i,none⟩=some (.int .i64 (ci:Int)):=(by rw [<-WN];rcases Py MN with rfl|rfl|rfl|rfl <;> simp [World.cell?,UT,Fv]);have OZ:=hdd (aL WN (aL JQ (aL UT (aL M6 Sp))));clear WN JQ UT M6 Sp uG DX VT aah pS))
   go_roundg (x.buf.length-(k+1))
   case measure=>omega
   case rel=>
    obtain⟨WN,JQ,UT,M6,Sp⟩:=OZ.out
    refine⟨k+1,af,rfl,by go_num,hdd ⟨?_,?_,?_,?_⟩⟩
    ·exact Below.setCell M6 (by show w.heap.size<=w.heap.size+1;omega) _
    ·simp;omega
    ·exact(heap_setCell_other _ ⟨_,_,none⟩ _ _ aa2).trans JQ
    ·have hs:=J8 (v:= .int .i64 ((ci:Int)+1)) UT MN
     refine hs.trans ?_
     unfold Fv
     rw [Zw.out 0,Zw.out 1,Zw.out 2,Zw.out 3]
     subst WN
     rcases Py MN with rfl|rfl|rfl|rfl <;> simp
  ·obtain rfl:k=x.buf.length:=af
   obtain⟨cZ,UW,kx,ka⟩:=HR.out
   have a0:wr.cell? ⟨w.heap.size+1,0,none⟩=some (.int .i64 (iP x 0:Nat)):=by rw [<-yH];simp [World.cell?,ka,Fv]
   have a1:wr.cell? ⟨w.heap.size+1,1,none⟩=some (.int .i64 (iP x 1:Nat)):=by rw [<-yH];simp [World.cell?,ka,Fv]
   have a2:wr.cell? ⟨w.heap.size+1,2,none⟩=some (.int .i64 (iP x 2:Nat)):=by rw [<-yH];simp [World.cell?,ka,Fv]
   have a3:wr.cell? ⟨w.heap.size+1,3,none⟩=some (.int .i64 (iP x 3:Nat)):=by rw [<-yH];simp [World.cell?,ka,Fv]
   have HP:=hdd (aL cZ (aL UW kx))
   clear cZ UW kx ka HR hk
   have hab:∀b,b<=3->wr.cell? ⟨w.heap.size+1,b,none⟩=some (.int .i64 (iP x b:Nat)):=fun b hb=>by rcases Py hb with rfl|rfl|rfl|rfl <;> assumption
   obtain⟨m,hm⟩:=bt (iP x)
   rw [hm]at a0 a1 a2 a3 hab FJ
   have Oi:=hdd hab
   clear hab
   go_wp2_with fail
   clear a0 a1 a2 a3
   go_loopg [45,8] 4 (fun g i b w2=>∃k:Nat,k<=4/\g=4-k/\i = .int .i64 k/\b = .int .i64 (iU m k:Nat)/\w2=wr)
   case atStart=>exact⟨0,af,rfl,rfl,rfl,rfl⟩
   case round=>
    obtain⟨k,hk,rfl,rfl,rfl,rfl⟩:=hrel
    by_cases Wu:k<4
    ·have jS:=fun w'=>Mt (m:=m) Wu w'
     have hb3:=E6 m k hk
     have ME:iU m (k+1)=if m (iU m k)<m k then k else iU m k:=rfl
     obtain⟨b,hb⟩:=bt (iU m k)
     rw [hb]at hb3 ME ⊢
     have hab:=Oi.out b hb3
     obtain⟨mk,hmk⟩:=bt (m k)
     obtain⟨mb,hmb⟩:=bt (m b)
     rw [hmk]at jS ME
     rw [hmb]at hab ME
     have Da:=hdd ME
     clear ME hb hmk hmb
     by_cases i1:mb<mk
     ·go_wp2_with fail
      go_roundg (4-(k+1))
      case measure=>omega
      case rel=>exact⟨k+1,af,rfl,by go_num,by rw [Da.out,ar i1],rfl⟩
     ·go_wp2_with fail
      go_roundg (4-(k+1))
      case measure=>omega
      case rel=>exact⟨k+1,af,rfl,by go_num,by rw [Da.out,ai i1],rfl⟩
    ·obtain rfl:k=4:=af
     clear hk Wu
     have hbb:iU m 4=oC:=FJ.out.2.2.2.2.2
     rw [hbb]
     obtain⟨Wa,eo⟩:=bP (wr)
     subst eo
     have hX4:Wa.cell? ⟨w.heap.size,4,none⟩=some (.slice bs x.buf.length bc):=by simp [World.cell?,HP.out.2.2]
     go_wp2_with fail
     clear hX4
     go_loopg [59,12,11] x.buf.length (fun g i dv sv w3=>∃k:Nat,k<=x.buf.length/\g=x.buf.length-k/\i = .int .i64 k/\Hid (R3 x oC Wa.heap.size Wa w3 k dv sv))
     case atStart=>exact⟨0,af,rfl,rfl,hdd ⟨aI _ _,au.nil _ _,au.nil _ _,fun b hb=>by cases hb⟩⟩
     case round=>
      obtain⟨k,hk,rfl,rfl,HR⟩:=hrel
      by_cases jJ:k<x.buf.length
      ·obtain⟨cZ,sL,hos,hap⟩:=HR.out
       obtain⟨hb0,UW,kx⟩:=HP.out
       have Sr:=hb0.size
       have hsw:=cZ.size
       obtain⟨hok,oP⟩:=Vn.out
       obtain⟨hks,hkl⟩:=Bh.out
       obtain⟨_,_,hv,-,-,-,-,h5⟩:=oP.at af
       injection hv with hv1 _ hv3
       subst hv3
       obtain⟨eb,eB,lA,si,nE⟩:=h5 af
       subst lA
       subst hv1
       have wh:=Below.trans' hb0 cZ Sr
       have VO:=(cZ.block w.heap.size af).trans kx
       obtain⟨y0,y1,y2,y3,y4,y5,y6⟩:=bU wh si nE jJ
       have MN:aU x.keys x.buf[k].key<=3:=by have:=qY x.keys x.buf[k].key;omega
       have Rg:=fun(w9 nQ:World) (v:Value) (hk:aU x.keys x.buf[k].key=oC) (h9:ah wr w9)=>R3.down (nQ:=nQ) (v:=v) HR.out aH jJ hk h9
       have GK:=fun(w9 nQ:World) (v:Value) (hk:¬aU x.keys x.buf[k].key=oC) (h9:ah wr w9)=>R3.stay (nQ:=nQ) (v:=v) HR.out aH jJ hk h9
       obtain⟨y,hy⟩:=bt (x.buf[k])
       rw [hy]at y0 y1 y2 y3 y4 y5 y6 MN Rg GK
       have yq:=hdd fun(W:World) (hW:ah w W)=>yx (lf:=r.leaf) (ev:= .slice es x.aF.length ec) (dv:= .slice ds x.kids.length dc) (bv:= .slice (some ⟨eb,eB,none⟩) x.buf.length bc) (x:=y.key) ((hok.at af).below hW aH) hks
       obtain⟨i,hi⟩:=bt (aU x.keys y.key)
       rw [hi]at MN yq Rg GK
       obtain⟨LD,Ro⟩:=bt (((x.buf.take k).filter fun e=>decide (aU x.keys e.key=oC)))
       obtain⟨LS,Rn⟩:=bt (((x.buf.take k).filter fun e=>!decide (aU x.keys e.key=oC)))
       have Xt:LD.length<=20:=by rw [<-Ro];exact ik (sH _ _) (by rw [eP];omega)
       have abF:LS.length<=20:=by rw [<-Rn];exact ik (sH _ _) (by rw [eP];omega)
       rw [Ro]at sL Rg
       rw [Rn]at hos GK
       obtain⟨Za,Rt,rfl⟩:=sL.isSlice
       obtain⟨YA,YB,rfl⟩:=hos.isSlice
       obtain⟨W8,mM⟩:=bP (wr.alloc (.cells #[.int .i64 y.key, .int .i64 y.is.c, .int .i64 y.is.s, .int .i64 y.is.mi, .int .i64 y.is.ma, .int .i64 y.is.t, .int .i64 y.is.l] 96))
       have kS:ah wr W8:=by rw [mM];exact ag
       have Ee:W8.heap.size=wr.heap.size+1:=by rw [mM];simp
       have k8:W8.heap[wr.heap.size]?=some (.cells #[.int .i64 y.key, .int .i64 y.is.c, .int .i64 y.is.s, .int .i64 y.is.mi, .int .i64 y.is.ma, .int .i64 y.is.t, .int .i64 y.is.l] 96):=by rw [mM];exact aj _ _ rfl
       have DX:=(kS.block w.heap.size af).trans VO
       have uG:=Below.trans' wh kS wh.size
       have jS:=fun w'=>dw (ab:=eb) (aV:=eB) (n:=x.buf.length) (cap:=bc) (show (k:Int)=((k:Nat):Int) by rfl) jJ w'
       have s0:W8.cell? ⟨wr.heap.size,0,none⟩=some (.int .i64 y.key):=by simp [World.cell?,k8]
       have x0:W8.cell? ⟨w.heap.size,0,none⟩=some (.bool r.leaf):=by simp [World.cell?,DX]
       have x1:W8.cell? ⟨w.heap.size,1,none⟩=some (.slice es x.aF.length ec):=by simp [World.cell?,DX]
       have x2:W8.cell? ⟨w.heap.size,2,none⟩=some (.slice ks x.keys.length kc):=by simp [World.cell?,DX]
       have x3:W8.cell? ⟨w.heap.size,3,none⟩=some (.slice ds x.kids.length dc):=by simp [World.cell?,DX]
       have x4:W8.cell? ⟨w.heap.size,4,none⟩=some (.slice (some ⟨eb,eB,none⟩) x.buf.length bc):=by simp [World.cell?,DX]
       have GN:=sL.below kS aH
       have GM:=hos.below kS aH
       have eU:=hdd (aL uG (aL k8 (aL kS (aL GN GM))))
       have HST:=hdd (aL Rg (aL GK hy))
       clear cZ kx hok oP hks hkl h5 nE hy hi k8 DX HR Rg GK sL hos GN GM hap Ro Rn wh VO hb0 si
       go_upto_region 18 with (fail)
       rw [<-mM]
       clear mM kS y0 y1 y2 y3 y4 y5 y6 jS uG
       by_cases i1:i=oC
       ·go_wp2_with (first
         |(go_at_call 95;(with_reducible refine(yq.out _ eU.out.1).mono ?_);rintro e w9 ⟨rfl,pS⟩;obtain⟨uG,k8,kS,GN,GM⟩:=eU.out;have SK:=GN.below pS aH;have PI:wr.heap.size+1<=w9.heap.size:=(by have:=pS.size;omega);have k9:=(pS.block wr.heap.size af).trans k8;obtain⟨y0,y1,y2,y3,y4,y5,y6⟩:=(show w9.cell? ⟨wr.heap.size,0,none⟩=some (.int .i64 y.key)/\w9.cell? ⟨wr.heap.size,1,none⟩=some (.int .i64 y.is.c)/\w9.cell? ⟨wr.heap.size,2,none⟩=some (.int .i64 y.is.s)/\w9.cell? ⟨wr.heap.size,3,none⟩=some (.int .i64 y.is.mi)/\w9.cell? ⟨wr.heap.size,4,none⟩=some (.int .i64 y.is.ma)/\w9.cell? ⟨wr.heap.size,5,none⟩=some (.int .i64 y.is.t)/\w9.cell? ⟨wr.heap.size,6,none⟩=some (.int .i64 y.is.l)from (by simp [World.cell?,k9]));have qD:=hdd (show ah wr w9 from Below.trans' kS pS af);clear uG k8 kS GN GM pS k9)
         |(at_builtin;refine mY rfl (.tmp 69) (.tmp 71) rfl Wa.heap.size (.slice Za LD.length Rt) LD rfl (by repeat (first|assumption|with_reducible refine au.alloc ?_ _|with_reducible refine au.drewN ?_ _|with_reducible refine au.drew ?_)) ⟨_,0,none⟩ y rfl (fun j u h=>mO h) af (by first|omega|(simp;done)|(simp;omega)|(simp [aJ];done)|(simp [aJ];omega)) ?_;intro v10 nQ L4 zL Sm))
        go_roundg (x.buf.length-(k+1))
        case measure=>omega
        case rel=>
         obtain⟨Rg,GK,hy⟩:=HST.out
         exact⟨k+1,af,rfl,by go_num,hdd (Rg _ nQ v10 i1 (qD.out.alloc af _) L4 zL Sm)⟩
       ·go_wp2_with (first
         |(go_at_call 95;(with_reducible refine(yq.out _ eU.out.1).mono ?_);rintro e w9 ⟨rfl,pS⟩;obtain⟨uG,k8,kS,GN,GM⟩:=eU.out;have afO:=GM.below pS aH;have PI:wr.heap.size+1<=w9.heap.size:=(by have:=pS.size;omega);have k9:=(pS.block wr.heap.size af).trans k8;obtain⟨y0,y1,y2,y3,y4,y5,y6⟩:=(show w9.cell? ⟨wr.heap.size,0,none⟩=some (.int .i64 y.key)/\w9.cell? ⟨wr.heap.size,1,none⟩=some (.int .i64 y.is.c)/\w9.cell? ⟨wr.heap.size,2,none⟩=some (.int .i64 y.is.s)/\w9.cell? ⟨wr.heap.size,3,none⟩=some (.int .i64 y.is.mi)/\w9.cell? ⟨wr.heap.size,4,none⟩=some (.int .i64 y.is.ma)/\w9.cell? ⟨wr.heap.size,5,none⟩=some (.int .i64 y.is.t)/\w9.cell? ⟨wr.heap.size,6,none⟩=some (.int .i64 y.is.l)from (by simp [World.cell?,k9]));have qD:=hdd (show ah wr w9 from Below.trans' kS pS af);clear uG k8 kS GN GM pS k9)
         |(at_builtin;refine mY rfl (.tmp 73) (.tmp 75) rfl Wa.heap.size (.slice YA LS.length YB) LS rfl (by repeat (first|assumption|with_reducible refine au.alloc ?_ _|with_reducible refine au.drewN ?_ _|with_reducible refine au.drew ?_)) ⟨_,0,none⟩ y rfl (fun j u h=>mO h) af (by first|omega|(simp;done)|(simp;omega)|(simp [aJ];done)|(simp [aJ];omega)) ?_;intro v10 nQ L4 zL Sm))
        go_roundg (x.buf.length-(k+1))
        case measure=>omega
        case rel=>
         obtain⟨Rg,GK,hy⟩:=HST.out
         exact⟨k+1,af,rfl,by go_num,hdd (GK _ nQ v10 i1 (qD.out.alloc af _) L4 zL Sm)⟩
      ·obtain rfl:k=x.buf.length:=af
       obtain⟨h,kR,sF,hown,-,-⟩:=FJ.out
       obtain⟨cZ,sL,hos,hap⟩:=HR.out
       obtain⟨hb0,UW,kx⟩:=HP.out
       have Sr:=hb0.size
       have hsw:=cZ.size
       rw [List.take_length]at sL hos
       have wh:=Below.trans' hb0 cZ Sr
       have VO:=(cZ.block w.heap.size af).trans kx
       obtain⟨LD,Ro⟩:=bt ((x.buf.filter fun e=>decide (aU x.keys e.key=oC)))
       obtain⟨LS,Rn⟩:=bt ((x.buf.filter fun e=>!decide (aU x.keys e.key=oC)))
       have Xt:LD.length<=20:=by rw [<-Ro];exact ik (sH _ _) af
       have abF:LS.length<=20:=by rw [<-Rn];exact ik (sH _ _) af
       rw [Ro]at sL
       rw [Rn]at hos
       obtain⟨Za,Rt,rfl⟩:=sL.isSlice
       obtain⟨YA,YB,rfl⟩:=hos.isSlice
       have h3:=h.below wh aH
       obtain⟨c0,-,-,-,-,c4,wG,-⟩:=h3.cells kR
       have iu:=fun w'=>dR (ab:=nb) (aV:=0) (n:=rs.length) (cap:=cap) (show (j:Int)=((j:Nat):Int) by rfl) hjl w'
       simp only [iW]at iu
       obtain⟨q1,q2⟩:=h.field (f:=3) rfl kR sF af (w1:=wr) (v':= .slice YA LS.length YB) (x':={ x with buf:=LS }) (aa0.of wh aH) (hos.mono af).row (fun b hb=> .inr (by have:=(hos.lt b hb).1;omega)) rfl (IM x LS) rfl
       have HN:=hdd (show R4 M bb (dA bb (.slice (some ⟨nb,0,none⟩) rs.length cap) rs) w (wr.setCell ⟨nb,j*5+4,none⟩ (.slice YA LS.length YB)) w.heap.size (.slice Za LD.length Rt) (qQ f) j LD (LD.drop 0) t' from by
        have hft:∀b,dA bb (.slice (some ⟨nb,0,none⟩) rs.length cap) rs b->b<w.heap.size:=fun b hb=>(h.lt b hb).2
        refine⟨_,_,_,_,_,_,_,_,q1,q2,(sL.mono af).block fun g hg=>heap_setCell_other _ ⟨nb,_,none⟩ _ _ (fun e=>by have:=(sL.lt g hg).1;have e:g=nb:=e;omega),fun b hb hf=>?_,(heap_setCell_other _ ⟨nb,_,none⟩ _ _ (by show w.heap.size≠nb;omega)).trans VO,fun hf=>?_,fun hb=>?_,?_⟩
        ·rcases BO kR af hf with h1|h1
         ·have:=hft b h1;have:=(sL.lt b hb).1;omega
         ·exact hap b h1 hb
        ·rcases BO kR af hf with h1|h1
         ·have:=hft _ h1;omega
         ·have:=(hos.lt _ h1).1;omega
        ·have:=(sL.lt _ hb).1;omega
        ·have hF:=FJ.out.2.2.2.2.1
         rw [Ro,Rn]at hF
         exact hF)
       clear q1 q2 h3 hown cZ sL hos hap hb0 kx wh VO Ro Rn HR HP Es
       go_wp2_with fail
       clear c0 c4 wG iu
       go_loopg [89] LD.length (fun g i w3=>∃k:Nat,k<=LD.length/\g=LD.length-k/\i = .int .i64 k/\Hid (R4 M bb (dA bb (.slice (some ⟨nb,0,none⟩) rs.length cap) rs) w w3 w.heap.size (.slice Za LD.length Rt) (qQ f) j LD (LD.drop k) t'))
       case atStart=>exact⟨0,af,rfl,rfl,HN⟩
       case round=>
        clear HN
        obtain⟨k,hk,rfl,rfl,HR⟩:=hrel
        by_cases zJ:k<LD.length
        ·obtain⟨kY,fO,tk,a0,a1,a2,a3,a4,hB,hS,sL,hdF,QU,YL,hdx,hD⟩:=HR.out
         obtain⟨y,hy⟩:=bt (LD[k])
         rw [vd zJ,hy]at hD
         obtain⟨z,kd,t1,more,key,t2,z2,hz,⟨hzk,aft,ad6⟩,S3,hp,hkf,hz2,hrest⟩:=Hp hD
         obtain⟨j',YI,cap',r',hjj,rfl,MF,Z8,aaQ,hown'⟩:=hB.place hz
         obtain rfl:j'=j:=af
         obtain⟨es',Vl,WH⟩:=hown'.aF.isSlice
         obtain⟨ks',Si,SX⟩:=hown'.keys.isSlice
         obtain⟨ds',OD,PZ⟩:=hown'.kids.isSlice
         obtain⟨bs',XF,WQ⟩:=hown'.buf.isSlice
         obtain⟨i,hi⟩:=bt (aU z.keys y.key)
         rw [hi]at S3 hkf
         have hil:i<z.kids.length:=(gJ.1 S3).1
         obtain⟨db,Ae,aW,WL,ab9,MS⟩:=gy.get (hown'.kids.at af) S3
         rw [PZ]at WL
         injection WL with abe _ abd
         subst abe abd
         obtain⟨_,_,hv,-,-,-,-,h5⟩:=sL.at af
         injection hv with hv1 _ hv3
         subst hv3
         obtain⟨eb,eB,lA,si,nE⟩:=h5 af
         subst lA
         subst hv1
         obtain⟨y0,y1,y2,y3,y4,y5,y6⟩:=bU (aI _ _) si nE zJ
         rw [hy]at y0 y1 y2 y3 y4 y5 y6
         have aa3:w.heap.size<wr.heap.size:=(eI.1 QU).1
         obtain⟨W8,mM⟩:=bP (wr.alloc (.cells #[.int .i64 y.key, .int .i64 y.is.c, .int .i64 y.is.s, .int .i64 y.is.mi, .int .i64 y.is.ma, .int .i64 y.is.t, .int .i64 y.is.l] 96))
         have kS:ah wr W8:=by rw [mM];exact ag
         have Ee:W8.heap.size=wr.heap.size+1:=by rw [mM];simp
         have k8:W8.heap[wr.heap.size]?=some (.cells #[.int .i64 y.key, .int .i64 y.is.c, .int .i64 y.is.s, .int .i64 y.is.mi, .int .i64 y.is.ma, .int .i64 y.is.t, .int .i64 y.is.l] 96):=by rw [mM];exact aj _ _ rfl
         have I3:=hB.below kS aH
         have Ej:=(kS.block _ aa3).trans QU
         obtain⟨c0,n0,n1,n2,n3,n4,-,-,agC,afT,agA⟩:=I3.cells MF
         rw [WH]at n1
         rw [SX]at n2
         rw [PZ]at n3
         rw [WQ]at n4
         have x0:W8.cell? ⟨w.heap.size,0,none⟩=some a0:=by simp [World.cell?,Ej]
         have x1:W8.cell? ⟨w.heap.size,1,none⟩=some a1:=by simp [World.cell?,Ej]
         have x2:W8.cell? ⟨w.heap.size,2,none⟩=some a2:=by simp [World.cell?,Ej]
         have x3:W8.cell? ⟨w.heap.size,3,none⟩=some a3:=by simp [World.cell?,Ej]
         have x4:W8.cell? ⟨w.heap.size,4,none⟩=some a4:=by simp [World.cell?,Ej]
         have xf:∀o,W8.frozen? ⟨w.heap.size,o,none⟩=false:=fun o=>by simp [World.frozen?,Ej]
         obtain⟨W9,jz⟩:=bP (((((W8.setCell ⟨w.heap.size,0,none⟩ (.bool r'.leaf)).setCell ⟨w.heap.size,1,none⟩ (.slice es' z.aF.length Vl)).setCell ⟨w.heap.size,2,none⟩ (.slice ks' z.keys.length Si)).setCell ⟨w.heap.size,3,none⟩ (.slice (some ⟨db,Ae,none⟩) z.kids.length OD)).setCell ⟨w.heap.size,4,none⟩ (.slice bs' z.buf.length XF))
         have PI:W9.heap.size=wr.heap.size+1:=by rw [jz];simp [Ee]
         have JQ:W9.heap[w.heap.size]?=some (.cells #[.bool r'.leaf, .slice es' z.aF.length Vl, .slice ks' z.keys.length Si, .slice (some ⟨db,Ae,none⟩) z.kids.length OD, .slice bs' z.buf.length XF] 119):=by
          rw [jz]
          have:=heap_setCell_same (off:=4) (v:= .slice bs' z.buf.length XF) (heap_setCell_same (off:=3) (v:= .slice (some ⟨db,Ae,none⟩) z.kids.length OD) (heap_setCell_same (off:=2) (v:= .slice ks' z.keys.length Si) (heap_setCell_same (off:=1) (v:= .slice es' z.aF.length Vl) (heap_setCell_same (off:=0) (v:= .bool r'.leaf) Ej))))
          simpa using this
         have h9:∀b,b≠w.heap.size->W9.heap[b]?=W8.heap[b]?:=fun b hb=>by rw [jz];exact lF (i:=0) hb
         have jS:=fun w'=>dw (ab:=eb) (aV:=eB) (n:=LD.length) (cap:=Rt) (show (k:Int)=((k:Nat):Int) by rfl) zJ w'
         have iu:=fun w'=>dR (ab:=YI) (aV:=0) (n:=fO.length) (cap:=cap') (show (j':Int)=((j':Nat):Int) by rfl) aaQ w'
         simp only [iW]at iu
         have TP:Bd M W9 bb (.slice (some ⟨YI,0,none⟩) fO.length cap') fO tk:=I3.world fun b hb=>h9 b (fun e=>YL (e▸hb))
         have Tx:aa0 (fun b=>b=w.heap.size) wr W9:=by
          rw [jz]
          exact Jt (aa0.of kS aH) _ _ _ _ _
         have hS9:nG (dA bb (.slice (some ⟨nb,0,none⟩) rs.length cap) rs) (dA bb (.slice (some ⟨YI,0,none⟩) fO.length cap') fO) w W9:=⟨hS.turn.trans' Tx (fun i hi e=>af),hS.new⟩
         have SK:au M W9 (.slice (some ⟨eb,eB,none⟩) LD.length Rt) LD:=sL.block fun g hg=>(h9 g (fun e=>hdx (by rw [hg,e]))).trans (kS.block g (sL.lt g hg).2)
         have Z3:=(h9 wr.heap.size af).trans k8
         have Xo:Q5 M bb (dA bb (.slice (some ⟨nb,0,none⟩) rs.length cap) rs) w W9 w.heap.size wr.heap.size (.slice (some ⟨eb,eB,none⟩) LD.length Rt) LD y (.slice (some ⟨YI,0,none⟩) fO.length cap') fO tk:=
          ⟨TP,hS9,SK,hdF,⟨_,_,_,_,_,JQ⟩,YL,hdx,Z3,fun hf=>by have:=(hB.lt _ hf).2;omega⟩
         have MR:W9.cell? ⟨db,Ae+i,none⟩=some (.int .i64 kd):=(World.cell?_of_block ((h9 db (fun e=>YL (by rw [<-e];exact .inr (.inr ⟨j',r',2,MF,by show r'.dv.ownBlock=_;rw [PZ];rfl⟩)))).trans (kS.block db ab9))).trans MS
         have WM:db<W9.heap.size:=af
         have yq:=hdd (yx (lf:=r'.leaf) (ev:= .slice es' z.aF.length Vl) (dv:= .slice (some ⟨db,Ae,none⟩) z.kids.length OD) (bv:= .slice bs' z.buf.length XF) (x:=y.key) ((show bw M W9 (.slice ks' z.keys.length Si) z.keys from SX▸(TP.Cu j' r' z MF Z8).keys).at af) hzk)
         rw [hi]at yq
         have HQ:=hdd (aL Xo (aL MR WM))
         have X7:=hdd JQ
         have HF:=hdd (aL hp (aL hkf (aL hz2 hrest)))
         have s9:W9.cell? ⟨wr.heap.size,0,none⟩=some (.int .i64 y.key):=by simp [World.cell?,Z3]
         have u0:W9.cell? ⟨w.heap.size,0,none⟩=some (.bool r'.leaf):=by simp [World.cell?,JQ]
         have u1:W9.cell? ⟨w.heap.size,1,none⟩=some (.slice es' z.aF.length Vl):=by simp [World.cell?,JQ]
         have u2:W9.cell? ⟨w.heap.size,2,none⟩=some (.slice ks' z.keys.length Si):=by simp [World.cell?,JQ]
         have u3:W9.cell? ⟨w.heap.size,3,none⟩=some (.slice (some ⟨db,Ae,none⟩) z.kids.length OD):=by simp [World.cell?,JQ]
         have u4:W9.cell? ⟨w.heap.size,4,none⟩=some (.slice bs' z.buf.length XF):=by simp [World.cell?,JQ]
         have HRZ:=hdd (aL MF Z8)
         clear hB hS sL hdF QU YL hdx hD hz hzk S3 hp hkf hz2 hrest MF Z8 hown' WH SX PZ WQ MS h5 si nE kS I3 Ej h9 TP Tx hS9 SK Xo MR JQ Z3 HR hi k8 hy
         have HW9:=hdd jz
         have HI1:=hdd iu
         clear jz
         go_upto_region 26 with (fail)
         rw [<-mM]
         clear y0 y1 y2 y3 y4 y5 y6 jS mM
         go_upto_region 27 with (fail)
         rw [<-HW9.out]
         clear c0 n0 n1 n2 n3 n4 x0 x1 x2 x3 x4 xf HW9 iu
         go_upto_region 28 with ((go_at_call 95;(with_reducible refine yq.out.mono ?_);rintro e nQ ⟨rfl,zP⟩))
         clear s9 u0 u1 u2 u3 u4
         obtain⟨Xo,MR,-⟩:=HQ.out
         have Mw:=zP.size
         have Qc:=Xo.below zP
         have Q9:=(zP.block w.heap.size af).trans X7.out
         have Rf:=(zP.cell (p:=⟨db,Ae+i,none⟩) WM).trans MR
         have q3:nQ.cell? ⟨w.heap.size,3,none⟩=some (.slice (some ⟨db,Ae,none⟩) z.kids.length OD):=by simp [World.cell?,Q9]
         obtain⟨s0,s1,s2,s3,s4,s5,s6⟩:=(show nQ.cell? ⟨wr.heap.size,0,none⟩=some (.int .i64 y.key)/\nQ.cell? ⟨wr.heap.size,1,none⟩=some (.int .i64 y.is.c)/\nQ.cell? ⟨wr.heap.size,2,none⟩=some (.int .i64 y.is.s)/\nQ.cell? ⟨wr.heap.size,3,none⟩=some (.int .i64 y.is.mi)/\nQ.cell? ⟨wr.heap.size,4,none⟩=some (.int .i64 y.is.ma)/\nQ.cell? ⟨wr.heap.size,5,none⟩=some (.int .i64 y.is.t)/\nQ.cell? ⟨wr.heap.size,6,none⟩=some (.int .i64 y.is.l)from by simp [World.cell?,Qc.Vk])
         have XS:=hdd Qc
         have KV:=hdd (hput (Qc.bd.drew) HF.out.1)
         clear Xo MR Qc Q9 zP
         have aaT:=fun w'=>lQ (ab:=db) (aV:=Ae) (n:=z.kids.length) (cap:=OD) (show (i:Int)=((i:Nat):Int) by rfl) hil w'
         refine bJ [(0,1),(1,1),(2,0),(3,1),(4,1),(5,0),(6,0),(7,3),(8,1),(9,1),(10,1),(11,1),(12,1)] 7
          (fun W=>W.cell? ⟨w.heap.size,3,none⟩=some (.slice (some ⟨db,Ae,none⟩) z.kids.length OD)/\W.cell? ⟨db,Ae+i,none⟩=some (.int .i64 kd)/\W.cell? ⟨wr.heap.size,0,none⟩=some (.int .i64 y.key)/\W.cell? ⟨wr.heap.size,1,none⟩=some (.int .i64 y.is.c)/\W.cell? ⟨wr.heap.size,2,none⟩=some (.int .i64 y.is.s)/\W.cell? ⟨wr.heap.size,3,none⟩=some (.int .i64 y.is.mi)/\W.cell? ⟨wr.heap.size,4,none⟩=some (.int .i64 y.is.ma)/\W.cell? ⟨wr.heap.size,5,none⟩=some (.int .i64 y.is.t)/\W.cell? ⟨wr.heap.size,6,none⟩=some (.int .i64 y.is.l)) bT bT ⟨q3,Rf,s0,s1,s2,s3,s4,s5,s6⟩ ?_
         clear q3 Rf s0 s1 s2 s3 s4 s5 s6
         (simp only [bG,List.filterMap_cons,List.filterMap_nil,List.getElem?_cons_zero,List.getElem?_cons_succ,Option.map_some])
         (repeat first|refine aY ?_|refine aX ?_)
         refine bn rfl (fun K hK=>?_)
         go_simp
         (with_reducible refine KV.out.mono ?_);rintro e VC ⟨rfl,aax⟩
         obtain⟨VJ,Om,p1,p2⟩:=aax
         have Ig:=hdd ((XS.out.below (wy:=nQ.drew) (aI _ _).drew).step p1 p2)
         clear p1 p2 aaT
         go_simp
         refine hK _ _ ?_
         clear hK K
         (repeat first|refine aY ?_|refine aX ?_)
         refine cy ?_
         go_upto_if 117 with (fail)
         have HFK:=JV HF.out.2.1
         go_cut [] (fun wx=>∃Z1 R8,Hid (Q5 M bb (dA bb (.slice (some ⟨nb,0,none⟩) rs.length cap) rs) w wx w.heap.size wr.heap.size (.slice (some ⟨eb,eB,none⟩) LD.length Rt) LD y Z1 R8 t2))
         case first=>
          rcases HFK with ⟨GV,rfl⟩|⟨GV,yy,RN,aaW,aaV,ad8,ad7,rfl⟩
          ·have hm2:¬0<=more:=af
           clear GV
           go_wp2_with fail
           go_meet
           exact⟨VJ,Om,Ig⟩
          ·obtain⟨j2,Oq,cap2,r2,aaR,aaD,hr2,hx2,aaP,hown2⟩:=Ig.out.bd.place RN
           obtain rfl:j2=j':=af
           subst aaD
           obtain⟨c0,-,-,c2,-,-,wG,-,Tp,Wl,agz⟩:=Ig.out.bd.cells hr2
           have CD:=hown2.keys
           obtain⟨Z2,Z4,SV⟩:=CD.isSlice
           rw [SV]at c2
           have I1:=Ig.out.bd.off j2 r2 1
           have iI:=hdd fun(W:World) (hT:aa0 (fun b=>(r2.lR 1).ownBlock=some b) VC W)=>(⟨(hT.cell Tp (fun h=>(I1 bb hr2 h).1 rfl) 0).trans c0,(hT.cell Wl (fun h=>(I1 Oq hr2 h).2 rfl) _).trans c2⟩:W.cell? ⟨bb,0,none⟩=some (.slice (some ⟨Oq,0,none⟩) Om.length cap2)/\W.cell? ⟨Oq,j2*5+2,none⟩=some (.slice Z2 yy.keys.length Z4))
           have Ik:=hdd fun(W:World) (hT:aa0 (fun b=>(r2.lR 1).ownBlock=some b) VC W)=>(fun o=>(hT.frozen Wl (fun h=>(I1 Oq hr2 h).2 rfl) o).trans (wG o):∀o,W.frozen? ⟨Oq,o,none⟩=false)
           have Ax:=hdd (Ig.out.bd.insert (W5:=(VC.alloc (.cells #[.int .i64 key] 3)).drew) (f:=1) (i:=i) (vb:=VC.heap.size) (key:=key) (x':={ yy with keys:=yy.keys.take i++key::yy.keys.drop i }) hr2 hx2 (.inl rfl) CD aaW af (ag) (aj _ _ rfl) aH rfl (Pw yy _) rfl rfl (o:=j2*5+2) rfl)
           rw [show r2.lR 1 = .slice Z2 yy.keys.length Z4 from SV]at Ax iI Ik
           have iu:=fun w'=>dR (ab:=Oq) (aV:=0) (n:=Om.length) (cap:=cap2) (show (j2:Int)=((j2:Nat):Int) by rfl) aaP w'
           simp only [iW]at iu
           have HYY:=hdd RN
           clear c0 c2 wG CD SV I1 hr2 hx2 hown2 RN aaR
           go_upto_region 30 with (fail)
           refine bJ [(0,1),(1,1),(2,1),(3,1),(4,0),(5,1),(6,1),(7,1),(8,1),(9,1),(10,0),(11,1),(12,1),(13,1),(14,0),(15,1),(16,1),(17,2),(18,2),(19,1),(20,1),(21,3)] 21
            (fun W=>W.cell? ⟨bb,0,none⟩=some (.slice (some ⟨Oq,0,none⟩) Om.length cap2)/\W.cell? ⟨Oq,j2*5+2,none⟩=some (.slice Z2 yy.keys.length Z4)) bT bT (iI.out _ (aa0.refl _ _).drew) ?_
           (simp only [bG,List.filterMap_cons,List.filterMap_nil,List.getElem?_cons_zero,List.getElem?_cons_succ,Option.map_some])
           (repeat first|refine aY ?_|refine aX ?_)
           refine aP rfl (fun K hK=>?_)
           go_simp
           refine hK _ _ (iI.out _ ((aa0.refl _ _).alloc _).drew) ?_
           clear hK K
           refine aP rfl (fun K hK=>?_)
           go_simp
           (with_reducible refine Ax.out.mono ?_);rintro e w12 ⟨s12,n12,c12,rfl,PO,WU,Wi⟩
           go_simp
           refine hK _ _ (iI.out _ PO) ?_
           clear hK K
           have hfz:=Ik.out _ PO (j2*5+2)
           have YT:=(iI.out _ PO).2
           have CZ:=hdd (Ig.out.step WU Wi)
           clear PO WU Wi iI Ik
           (repeat first|refine aY ?_|refine aX ?_)
           refine bn rfl (fun K hK=>?_)
           go_simp
           refine hK _ _ ?_
           clear hK K
           refine cy ?_
           clear hfz YT iu Ax
           generalize w12.setCell ⟨Oq,j2*5+2,none⟩ (.slice s12 n12 c12)=WA at CZ ⊢
           generalize Om.set j2 (r2.sx 1 (.slice s12 n12 c12))=R8 at CZ
           generalize Value.slice (some ⟨Oq,0,none⟩) Om.length cap2=Z1 at CZ
           obtain⟨y3,QT⟩:=bP ({ yy with keys:=yy.keys.take i++key::yy.keys.drop i })
           have hk3:y3.kids=yy.kids:=by rw [QT]
           have cn:=hdd (show ∀D,cG t1 j2 { yy with keys:=yy.keys.take i++key::yy.keys.drop i,kids:=D }=cG (cG t1 j2 y3) j2 { y3 with kids:=D } from fun D=>by rw [Jx,QT])
           rw [<-QT]at CZ
           have VZ:(cG t1 j2 y3).dh j2=some y3:=tP HYY.out
           clear QT
           obtain⟨j3,Mf,Nz,r3,S5,aiA,hr3,hx3,S4,uD⟩:=CZ.out.bd.place VZ
           obtain rfl:j3=j2:=af
           subst aiA
           obtain⟨c0,-,-,-,c3,-,wG,-,abm,Wk,agy⟩:=CZ.out.bd.cells hr3
           have SJ:=uD.kids
           obtain⟨ds3,Zb,J9⟩:=SJ.isSlice
           rw [J9]at c3
           have I0:=CZ.out.bd.off j3 r3 2
           have iI:=hdd fun(W:World) (hT:aa0 (fun b=>(r3.lR 2).ownBlock=some b) WA W)=>(⟨(hT.cell abm (fun h=>(I0 bb hr3 h).1 rfl) 0).trans c0,(hT.cell Wk (fun h=>(I0 Mf hr3 h).2 rfl) _).trans c3⟩:W.cell? ⟨bb,0,none⟩=some (.slice (some ⟨Mf,0,none⟩) R8.length Nz)/\W.cell? ⟨Mf,j3*5+3,none⟩=some (.slice ds3 y3.kids.length Zb))
           have Ik:=hdd fun(W:World) (hT:aa0 (fun b=>(r3.lR 2).ownBlock=some b) WA W)=>(fun o=>(hT.frozen Wk (fun h=>(I0 Mf hr3 h).2 rfl) o).trans (wG o):∀o,W.frozen? ⟨Mf,o,none⟩=false)
           have Ax:=hdd (CZ.out.bd.insert (W5:=(WA.alloc (.cells #[.int .i64 more] 3)).drew) (f:=2) (i:=i+1) (vb:=WA.heap.size) (key:=more) (x':={ y3 with kids:=y3.kids.take (i+1)++more::y3.kids.drop (i+1) }) hr3 hx3 (.inr rfl) SJ (by rw [hk3];exact aaV) (by rw [hk3];omega) (ag) (aj _ _ rfl) aH rfl (Pv y3 _) rfl rfl (o:=j3*5+3) rfl)
           rw [show r3.lR 2 = .slice ds3 y3.kids.length Zb from J9]at Ax iI Ik
           have agh:i<=20:=af
           rw [show ((i+1:Nat):Int)=IntKind.i64.wrap ((i:Int)+1)from by rw [IntWalk.i64_in _ af];omega]at Ax
           have iu:=fun w'=>dR (ab:=Mf) (aV:=0) (n:=R8.length) (cap:=Nz) (show (j3:Int)=((j3:Nat):Int) by rfl) S4 w'
           simp only [iW]at iu
           have Vr:=hdd hk3
           clear c0 c3 wG SJ J9 I0 hr3 hx3 uD VZ S5 hk3
           go_upto_region 31 with (fail)
           refine bJ [(0,1),(1,1),(2,1),(3,1),(4,0),(5,1),(6,1),(7,1),(8,1),(9,1),(10,0),(11,1),(12,1),(13,1),(14,0),(15,1),(16,1),(17,1),(18,2),(19,2),(20,1),(21,1),(22,3)] 22
            (fun W=>W.cell? ⟨bb,0,none⟩=some (.slice (some ⟨Mf,0,none⟩) R8.length Nz)/\W.cell? ⟨Mf,j3*5+3,none⟩=some (.slice ds3 y3.kids.length Zb)) bT bT (iI.out _ (aa0.refl _ _).drew) ?_
           (simp only [bG,List.filterMap_cons,List.filterMap_nil,List.getElem?_cons_zero,List.getElem?_cons_succ,Option.map_some])
           (repeat first|refine aY ?_|refine aX ?_)
           refine aP rfl (fun K hK=>?_)
           go_simp
           refine hK _ _ (iI.out _ ((aa0.refl _ _).alloc _).drew) ?_
           clear hK K
           refine aP rfl (fun K hK=>?_)
           go_simp
           (with_reducible refine Ax.out.mono ?_);rintro e w13 ⟨s13,n13,c13,rfl,PN,WT,Wh⟩
           go_simp
           refine hK _ _ (iI.out _ PN) ?_
           clear hK K
           have hfz:=Ik.out _ PN (j3*5+3)
           have YT:=(iI.out _ PN).2
           have Ur:=hdd (CZ.out.step WT Wh)
           rw [Vr.out,<-cn.out]at Ur
           clear PN WT Wh iI Ik
           (repeat first|refine aY ?_|refine aX ?_)
           refine bn rfl (fun K hK=>?_)
           go_simp
           refine hK _ _ ?_
           clear hK K
           refine cy ?_
           clear hfz YT iu Ax
           generalize w13.setCell ⟨Mf,j3*5+3,none⟩ (.slice s13 n13 c13)=WB at Ur ⊢
           go_wp2_with fail
           go_meet
           exact⟨_,_,Ur⟩
         case rest=>
          obtain⟨Z1,R8,FC⟩:=hcut
          clear Ig XS HQ X7 yq HRZ HI1 KV HFK
          obtain⟨-,-,hz2,hgo⟩:=HF.out
          obtain⟨j3,Mf,Nz,r3,S5,aiA,hr3,hx3,S4,uD⟩:=FC.out.bd.place hz2
          obtain rfl:j3=j':=af
          subst aiA
          obtain⟨c0,-,-,-,c3,-,-,-,-,-,-⟩:=FC.out.bd.cells hr3
          have cb:wc.cell? ⟨bb,2,none⟩=some (.int .i64 0):=by simp [World.cell?,FC.out.bd.box]
          obtain⟨ds3,Zb,J9⟩:=uD.kids.isSlice
          rw [J9]at c3
          have ck:wc.cell? ⟨wr.heap.size,0,none⟩=some (.int .i64 y.key):=by simp [World.cell?,FC.out.Vk]
          have iu:=fun w'=>dR (ab:=Mf) (aV:=0) (n:=R8.length) (cap:=Nz) (show (j3:Int)=((j3:Nat):Int) by rfl) S4 w'
          simp only [iW]at iu
          have RJ:=hdd hgo
          clear hz2 hgo hr3 hx3 uD J9 S5
          rcases RJ.out with ⟨h4,hd⟩|⟨h4,hd⟩
          ·have OQ:=hdd (FC.out.r4 hd)
           clear hd
           go_wp2_with fail
           go_roundg (LD.length-(k+1))
           case measure=>omega
           case rel=>exact⟨k+1,af,rfl,by go_num,OQ⟩
          ·have OM:=hdd (LM FC.out.bd FC.out.own FC.out.off Xt hd)
           clear hd
           go_wp2_with (go_at_call 119;(with_reducible refine OM.out.mono ?_);rintro e w14 ⟨rfl,aaw⟩)
           refine bodyPost_ret (results_none rfl _ _ _) rfl ?_
           obtain⟨nv4,rs4,p1,p2⟩:=aaw
           exact⟨rfl,nv4,rs4,p1,FC.out.ZJ.trans p2⟩
        ·obtain⟨kY,fO,tk,a0,a1,a2,a3,a4,hB,hS,-,-,-,-,-,hD⟩:=HR.out
         rw [Be af]at hD
         have HV:=hdd (show kO M bb (dA bb (.slice (some ⟨nb,0,none⟩) rs.length cap) rs) w t' wr from ⟨_,_,(cY hD)▸hB,hS⟩)
         clear hB hS hD HR
         go_wp2
         go_end0
         exact⟨rfl,HV.out⟩
theorem TS {f:Nat} (hput:Qq f):Iu f:=fun h hF=>Kf hput h hF
theorem IJ:∀f,Qq f
 |0=>fun _ hF=>by cases hF
 |f+1=>LO (TS (IJ f))
end
end Go.Proofs.YtmljjfhgciaceaaDoor
