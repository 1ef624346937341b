/- Lemmas of the proof. -/
import Derived.Test.YtmljjfhgciaceaaGreatDoorHd
import Derived.Test.YtmljjfhgciaceaaGreatDoorCz
import Derived.Test.YtmljjfhgciaceaaGreatDoorSP
import Derived.Test.YtmljjfhgciaceaaGreatDoorPU
import Derived.Maps.AppendAt
set_option maxRecDepth 100000
set_option maxHeartbeats 6000000
namespace Go.Proofs.YtmljjfhgciaceaaGreatDoor
open Go.RowKit
section
variable {y:aH} {n:Int} {rs:List Raw} {i b bb j f g o M xb eb:Nat} {F:Nat->Prop} {x:Nd} {r:Raw} {t t' t2:Tr} {nv:Value} {w wr w3 w9 mE a wx wy:World}
theorem pV {ops:Array Oper} {rest:List Oper} {o:Oper} {a:Act} {Q:Exit->Act->World->Prop} (hgd:o.guard=none) (s x:Operand)
  (ho:o.op = .call { callee:= .builtin .append,args:=#[s,x],argTypes:=#[35,35] }) (B:Nat) (v:Value) (es:List aH) (hs:a.eval s=v) (hown:ay B w v es)
  (ad:Addr) (e:aH) (hx:a.eval x=ah (some ad) 1 1) (hnews:∀j u,(bu e)[j]?=some u->w.cell? (ad.add j)=some u) (hlen:es.length<=1000000) (hbase:B<=w)
  (h:∀v' w',ay B w' v' (es++[e])->w.grownBy w' v.ownBlock->(v'.ownBlock=v.ownBlock\/v'.ownBlock=some w.heap.size)->wpList Tryz.prog ops Q rest (a.put o.dst v') w'):wpList Tryz.prog ops Q (o::rest) a w:=by
 obtain⟨i0,z,hi,hz,hz1,hz2,hz3⟩:=cG Tryz.IU;refine wpList_append_own_at w hgd s x 35 ho B 107 i0 z 7 56 Tryz.underlying35 hi hz hz1 hz2 hz3 bY v es _ hs hown.row ad 1 1 (bu e) hx rfl hnews (iW [e] |> fun h u hu=>h u (by simpa using hu)) iI ai hbase ?_;intro v' w' hown' hg _ h4;refine h v' w' ?_ hg h4;have:(es++[e]).flatMap bu=es.flatMap bu++bu e:=bh;refine⟨?_⟩;rw [this,dF];exact hown'
def VH (f:Nat):Prop:=∀{M:Nat} {w:World} {bb:Nat} {nv:Value} {rs:List Raw} {t t':Tr} {n:Int} {e:aH} {more key:Int},Bd M w bb nv rs t->uw f t n e=some (t',more,key) ->
 Calls Tryz.prog 109 #[.pointer (some (bb,0)),af n, .agg #[af e.key,af e.is.c,af e.is.s,af e.is.mi,af e.is.ma,af e.is.t,af e.is.l]] w
  fun x w'=>x = .returned (.tuple #[af more,af key])/\mZ M bb (dY bb nv rs) w t' w'
theorem UU (h:i<=3):i=0\/i=1\/i=2\/i=3:=ai
theorem Pk {a0 a1 a2 a3 v:Value} {T:TypeId} {fr:Nat×Nat} (h:w.heap[b]?=some (.cells #[a0,a1,a2,a3] T fr)) (hi:i<=3) :
  (w.setCell (b,i) v).heap[b]?=some (.cells #[if 0=i then v else a0,if 1=i then v else a1,if 2=i then v else a2,if 3=i then v else a3] T fr):=by
 have h:=aM (off:=i) (v:=v) h;rw [h];rcases UU hi with rfl|rfl|rfl|rfl <;> simp
theorem Rm {m:Nat->Nat} {k:Nat} (hk:k<4) (w:World):(Instr.index 189 (.agg #[af (m 0:Nat),af (m 1:Nat),af (m 2:Nat),af (m 3:Nat)]) (af (k:Nat))).run Tryz.prog w = .ok (af (m k:Nat)) w:=by
 unfold Instr.index;rcases xg hk with rfl|rfl|rfl|rfl <;> simp [go_sem]
theorem JO (m:Nat->Nat):∀k,k<=4->jZ m k<=3
 |0,_=>by unfold jZ;omega
 |k+1,h=>by
  have:=JO m k ai;unfold jZ
  split <;> omega
def cnt (x:Nd) (k j:Nat):Nat:=((x.buf.take k).filter fun e=>decide (bL x.keys e.key=j)).length
theorem Ji {put:Tr->Int->aH->Option (Tr×Int×Int)} (hF:rB put t n=some t'):∃x,t.dm n=some x/\x.keys.Pairwise (·<·)/\x.keys.length<=3/\x.buf.length<=20/\Checked x.buf /\
  wM put n (x.buf.filter fun e=>decide (bL x.keys e.key=jZ (jV x) 4)) (x.buf.filter fun e=>decide (bL x.keys e.key=jZ (jV x) 4))
    (dz t n { x with buf:=x.buf.filter fun e=>!decide (bL x.keys e.key=jZ (jV x) 4) })=some t':=by
 unfold rB at hF
 split at hF
 ·cases hF
 ·rename_i x hx
  split at hF
  ·rename_i hg
   exact⟨x,hx,hg.1,hg.2.1,hg.2.2.1,hg.2.2.2,hF⟩
  ·cases hF
theorem SE {k:Nat} (hk:k<x.buf) (j:Nat):cnt x (k+1) j=if j=bL x.keys x.buf[k].key then cnt x k j+1 else cnt x k j:=by
 unfold cnt;rw [ja hk,qH,dF];by_cases h:bL x.keys x.buf[k].key=j
 ·rw [aw h.symm,uS (by simpa using h)];simp
 ·rw [ar (Ne.symm h),uR (by simpa using h)];simp
theorem Zf (x:Nd) (k j:Nat):cnt x k j<=x.buf:=by
 unfold cnt;exact fZ (ub _ _) (by rw [gh];omega)
theorem Bw (x:Nd) (j:Nat):cnt x x.buf j=jV x j:=by unfold cnt jV;rw [List.take_length]
def Kh (x:Nd) (k:Nat):Array Value:=#[af (cnt x k 0:Nat),af (cnt x k 1:Nat),af (cnt x k 2:Nat),af (cnt x k 3:Nat)]
def R3 (x:Nd) (qF B:Nat) (wr w3:World) (k:Nat) (dv sv:Value):Prop:=
 Below B wr w3/\ay B w3 dv ((x.buf.take k).filter fun e=>decide (bL x.keys e.key=qF))/\ay B w3 sv ((x.buf.take k).filter fun e=>!decide (bL x.keys e.key=qF))/\∀b,sv.ownBlock=some b->dv.ownBlock≠some b
theorem R3.down {qF B k:Nat} {dv sv v:Value} (h:R3 x qF B wr w3 k dv sv) (hB:B<=wr) (hlt:k<x.buf) (hk:bL x.keys x.buf[k].key=qF) (h9:aq w3 w9)
  (ho:ay B mE v (((x.buf.take k).filter fun e=>decide (bL x.keys e.key=qF))++[x.buf[k]])) (hg:w9.grownBy mE dv.ownBlock) (hv:v.ownBlock=dv.ownBlock\/v.ownBlock=some w9.heap.size):R3 x qF B wr mE (k+1) v sv:=by
 obtain⟨h1,h2,h3,h4⟩:=h;have hs1:=h1.size;have hs9:=h9.size;refine⟨nP (aF h1 h9 ai) hg ai fun j hj=>(h2.lt j hj).1,?_,?_,fun b hb hb'=>?_⟩
 ·rw [ja hlt,qH,uS (by simpa using hk)];exact ho
 ·rw [ja hlt,qH,uR (by simpa using hk),List.filter_nil,nQ];exact h3.block fun b hb=>(hg.block b (by have:=(h3.lt b hb).2;omega) (fun e=>h4 b hb e.symm)).trans (h9.block b (h3.lt b hb).2)
 ·rcases hv with hv|hv
  ·exact h4 b hb (hv▸hb')
  ·have:=(h3.lt b hb).2;rw [hv]at hb';injection hb' with hb';omega
theorem R3.stay {qF B k:Nat} {dv sv v:Value} (h:R3 x qF B wr w3 k dv sv) (hB:B<=wr) (hlt:k<x.buf) (hk:¬bL x.keys x.buf[k].key=qF) (h9:aq w3 w9)
  (ho:ay B mE v (((x.buf.take k).filter fun e=>!decide (bL x.keys e.key=qF))++[x.buf[k]])) (hg:w9.grownBy mE sv.ownBlock) (hv:v.ownBlock=sv.ownBlock\/v.ownBlock=some w9.heap.size):R3 x qF B wr mE (k+1) dv v:=by
 obtain⟨h1,h2,h3,h4⟩:=h;have hs1:=h1.size;have hs9:=h9.size;refine⟨nP (aF h1 h9 ai) hg ai fun j hj=>(h3.lt j hj).1,?_,?_,fun b hb hb'=>?_⟩
 ·rw [ja hlt,qH,uR (by simpa using hk),List.filter_nil,nQ];exact h2.block fun b hb=>(hg.block b (by have:=(h2.lt b hb).2;omega) (fun e=>h4 b e.symm hb)).trans (h9.block b (h2.lt b hb).2)
 ·rw [ja hlt,qH,uS (by simpa using hk)];exact ho
 ·rcases hv with hv|hv
  ·exact h4 b (hv▸hb) hb'
  ·have:=(h2.lt b hb').2;rw [hv]at hb;injection hb with hb;omega
theorem E7 {v:Value} (hr:rs[j]?=some r) (hf:f<4) (h:dY bb nv (rs.set j (r.kR f v)) b):dY bb nv rs b\/v.ownBlock=some b:=by
 rcases h with rfl|h|⟨i,s,g,hs,hb⟩
 ·exact .inl (.inl rfl)
 ·exact .inl (.inr (.inl h))
 ·by_cases hi:i=j
  ·subst hi;rw [List.getElem?_set_self (dW.1 hr).1]at hs;obtain rfl:=dh hs;by_cases hg:g=f
   ·subst hg;rw [Raw.pO r hf]at hb;exact .inr hb
   ·rw [Raw.vw r hf v hg]at hb;exact .inl (.inr (.inr ⟨i,r,g,hr,hb⟩))
  ·rw [zV (Ne.symm hi)]at hs;exact .inl (.inr (.inr ⟨i,s,g,hs,hb⟩))
theorem Nk (x:Nd) (B:List aH):∀g,g≠3->Nd.fN { x with buf:=B } g=x.fN g/\Nd.fC { x with buf:=B } g=x.fC g:=fun g hg=>by
 rcases mA g 4 with h4|h4
 ·rcases xg h4 with rfl|rfl|rfl|rfl <;> first|exact⟨rfl,rfl⟩|exact absurd rfl hg
 ·obtain⟨k,rfl⟩:∃k,g=k+4:=⟨g-4,ai⟩;exact⟨rfl,rfl⟩
theorem UN (x:Nd) (B:List Int):∀g,g≠1->Nd.fN { x with keys:=B } g=x.fN g/\Nd.fC { x with keys:=B } g=x.fC g:=fun g hg=>by
 rcases mA g 4 with h4|h4
 ·rcases xg h4 with rfl|rfl|rfl|rfl <;> first|exact⟨rfl,rfl⟩|exact absurd rfl hg
 ·obtain⟨k,rfl⟩:∃k,g=k+4:=⟨g-4,ai⟩;exact⟨rfl,rfl⟩
theorem UM (x:Nd) (B:List Int):∀g,g≠2->Nd.fN { x with kids:=B } g=x.fN g/\Nd.fC { x with kids:=B } g=x.fC g:=fun g hg=>by
 rcases mA g 4 with h4|h4
 ·rcases xg h4 with rfl|rfl|rfl|rfl <;> first|exact⟨rfl,rfl⟩|exact absurd rfl hg
 ·obtain⟨k,rfl⟩:∃k,g=k+4:=⟨g-4,ai⟩;exact⟨rfl,rfl⟩
theorem Ol (t:Tr) (n:Int) (x y:Nd):dz (dz t n x) n y=dz t n y:=by simp [dz]
theorem Mm {put:Tr->Int->aH->Option (Tr×Int×Int)} {all ds:List aH} {e:aH} (h:wM put n all (e::ds) t=some t'):∃x k t1 more key t2 z,t.dm n=some x/\(x.keys.Pairwise (·<·)/\x.keys.length<=20/\x.kids.length<=20) /\
  x.kids[bL x.keys e.key]?=some k/\put t k e=some (t1,more,key)/\LA t1 n (bL x.keys e.key) more key=some t2/\t2.dm n=some z /\
  ((z.kids.length<=4/\wM put n all ds t2=some t')\/(¬z.kids.length<=4/\(all.filter fun d=>decide (e.key<d.key)).foldlM (rQ n) t2=some t')):=by
 unfold wM at h
 split at h
 ·cases h
 rename_i x hx
 by_cases hk:x.keys.Pairwise (·<·)/\x.keys.length<=20/\x.kids.length<=20
 ·rw [aw hk]at h
  split at h
  ·cases h
  rename_i k hk2
  split at h
  ·cases h
  rename_i t1 more key hp
  split at h
  ·cases h
  rename_i t2 ht2
  split at h
  ·cases h
  rename_i z hz
  refine⟨x,k,t1,more,key,t2,z,hx,hk,hk2,hp,ht2,hz,?_⟩;by_cases h4:z.kids.length<=4
  ·rw [aw h4]at h;exact .inl ⟨h4,h⟩
  ·rw [ar h4]at h;exact .inr ⟨h4,h⟩
 ·rw [ar hk]at h;cases h
theorem OV {t1:Tr} {more key:Int} (h:LA t1 n i more key=some t2):(more<0/\t2=t1)\/(0<=more/\∃y,t1.dm n=some y/\i<=y.keys/\i+1<=y.kids/\y.kids.length<=20/\y.keys.length<=20 /\
  t2=dz t1 n { y with keys:=y.keys.take i++key::y.keys.drop i,kids:=y.kids.take (i+1)++more::y.kids.drop (i+1) }):=by
 unfold LA at h;by_cases hm:more<0
 ·rw [aw hm]at h;exact .inl ⟨hm,(dh h).symm⟩
 ·rw [ar hm]at h
  split at h
  ·cases h
  rename_i y hy
  split at h
  ·rename_i hg
   exact .inr ⟨ai,y,hy,hg.1,hg.2.1,hg.2.2.1,hg.2.2.2,(dh h).symm⟩
  ·cases h
theorem rN (h:aA (fun b=>b=g) a w) (v:Value):aA (fun b=>b=g) a (w.setCell (g,o) v):=aA.setCell (p:=(g,o)) h (Or.inl (Eq.refl g)) v
theorem Oe (h:aA (fun b=>b=g) a w) (v0 v1 v2 v3 v4:Value):aA (fun b=>b=g) a (((((w.setCell (g,0) v0).setCell (g,1) v1).setCell (g,2) v2).setCell (g,3) v3).setCell (g,4) v4):=
 rN (rN (rN (rN (rN h v0) v1) v2) v3) v4
def R4 (M bb:Nat) (F:Nat->Prop) (w wr:World) (xb:Nat) (dv:Value) (put:Tr->Int->aH->Option (Tr×Int×Int)) (n:Int) (down rest:List aH) (t':Tr):Prop:=
 ∃nz rs' tk a0 a1 a2 a3 a4,Bd M wr bb nz rs' tk/\qB F (dY bb nz rs') w wr/\ay M wr dv down/\(∀b,dv.ownBlock=some b->¬dY bb nz rs' b)/\wr.heap[xb]?=some (.cells #[a0,a1,a2,a3,a4] 125)/\¬dY bb nz rs' xb/\dv.ownBlock≠some xb/\wM put n down rest tk=some t'
structure Q5 (M bb:Nat) (F:Nat->Prop) (w wx:World) (xb eb:Nat) (dv:Value) (down:List aH) (y:aH) (nv:Value) (rs:List Raw) (t:Tr):Prop where
 bd:Bd M wx bb nv rs t
 stp:qB F (dY bb nv rs) w wx
 own:ay M wx dv down
 off:∀b,dv.ownBlock=some b->¬dY bb nv rs b
 box:∃a0 a1 a2 a3 a4,wx.heap[xb]?=some (.cells #[a0,a1,a2,a3,a4] 125)
 fV:¬dY bb nv rs xb
 dx:dv.ownBlock≠some xb
 ent:wx.heap[eb]?=some (.cells #[af y.key,af y.is.c,af y.is.s,af y.is.mi,af y.is.ma,af y.is.t,af y.is.l] 107)
 cM:¬dY bb nv rs eb
theorem Q5.step {dv:Value} {down:List aH} {UH:Value} {Tv:List Raw} (h:Q5 M bb F w wx xb eb dv down y nv rs t) (hB:Bd M wy bb UH Tv t2)
  (hS:qB (dY bb nv rs) (dY bb UH Tv) wx wy):Q5 M bb F w wy xb eb dv down y UH Tv t2:=by
 obtain⟨o1,o2⟩:=Hz h.own hS h.off;obtain⟨a0,a1,a2,a3,a4,hb⟩:=h.box;obtain⟨x1,x2⟩:=hS.stay (eJ.1 hb).1 h.fV;obtain⟨e1,e2⟩:=hS.stay (eJ.1 h.ent).1 h.cM;exact⟨hB,h.stp.trans hS,o1,o2,⟨a0,a1,a2,a3,a4,x1.trans hb⟩,x2,h.dx,e1.trans h.ent,e2⟩
theorem Q5.below {dv:Value} {down:List aH} (h:Q5 M bb F w wx xb eb dv down y nv rs t) (hb:aq wx wy) :
  Q5 M bb F w wy xb eb dv down y nv rs t:=h.step (h.bd.below hb aO) (qB.of hb aO)
theorem Q5.r4 {dv:Value} {down rest:List aH} {put:Tr->Int->aH->Option (Tr×Int×Int)} (h:Q5 M bb F w wx xb eb dv down y nv rs t)
  (hd:wM put n down rest t=some t'):R4 M bb F w wx xb dv put n down rest t':=by
 obtain⟨a0,a1,a2,a3,a4,hb⟩:=h.box;exact⟨_,_,_,_,_,_,_,_,h.bd,h.stp,h.own,h.off,hb,h.fV,h.dx,hd⟩
theorem Bd.insert {W5:World} {nb cap vb:Nat} {key:Int} {x':Nd} {es:List Int} (h:Bd M w bb (ah nb rs cap) rs t) (hr:rs[j]?=some r) (hx:t.nodes[j]?=some x) (hf:f=1\/f=2)
  (hes:bU M w (r.iQ f) es) (hi:i<=es) (hlen:es.length<=100000) (h5:aq w W5) (hvb:W5.heap[vb]?=some (.cells #[af key] 3)) (hvl:w<=vb)
  (hl:x'.leaf=x.leaf) (ho:∀g,g≠f->x'.fN g=x.fN g/\x'.fC g=x.fC g) (hN:x'.fN f=(es.take i++key::es.drop i).length) (hC:x'.fC f=(es.take i++key::es.drop i).flatMap bP) (hoff:o=j*5+(f+1)) :
  Calls Tryz.prog 127 #[r.iQ f,af i,ah vb 1 1] W5 fun e w'=>∃so n sc,e = .returned (ah so n sc)/\aA (fun b=>(r.iQ f).ownBlock=some b) w w' /\
   Bd M (w'.setCell (nb,o) (ah so n sc)) bb (ah nb rs cap) (rs.set j (r.kR f (ah so n sc))) (dz t j x') /\
   qB (dY bb (ah nb rs cap) rs) (dY bb (ah nb rs cap) (rs.set j (r.kR f (ah so n sc)))) w (w'.setCell (nb,o) (ah so n sc)):=by
 have yw:=(h.lt bb (.inl rfl)).1;have hbl:=(h.lt bb (.inl rfl)).2;have hs5:=h5.size;have he5:=hes.below h5 aO;refine(IL (x:=key) he5 hi ai hlen hvb (fun e=>by have:=(hes.lt vb e).2;omega)).mono ?_;rintro e w' ⟨v',rfl,hown,hg,hv⟩;obtain⟨so,sc,rfl⟩:=hown.isSlice;have hT:aA (fun b=>(r.iQ f).ownBlock=some b) w w':=(aA.of h5 aO).trans ⟨hg.os,hg.tape,hg.output,hg.size,fun b hb hne=>hg.block b hb fun e=>hne e.symm⟩;obtain⟨q1,q2⟩:=h.field (f:=f) rfl hr hx ai hT (v':=ah so (es.take i++key::es.drop i).length sc) (x':=x') (by
   have:=hown.row;rw [hN,hC];rcases hf with rfl|rfl <;> exact this) (fun b hb=>by
   rcases hv with e|e
   ·exact .inl (e▸hb)
   ·rw [e]at hb;injection hb with hb;exact .inr ai) hl ho hoff
 exact⟨so,_,sc,rfl,hT,q1,q2⟩
end
section
variable {e:aH} {n:Int} {L:List aH} {rs:List Raw} {M bb f o b:Nat} {x:Nd} {t t':Tr} {nv:Value} {w:World}
theorem Bd.merge {W5:World} {nb cap j:Nat} {r:Raw} {x':Nd} {es:List aH} (h:Bd M w bb (ah nb rs cap) rs t) (hr:rs[j]?=some r) (hx:t.nodes[j]?=some x) (hf:f=0\/f=3)
  (hes:ay M w (r.iQ f) es) (hrow:yZ es) (hent:mf e) (hins:gJ es e=some L) (h5:aq w W5)
  (hl:x'.leaf=x.leaf) (ho:∀g,g≠f->x'.fN g=x.fN g/\x'.fC g=x.fC g) (hN:x'.fN f=L) (hC:x'.fC f=L.flatMap bu) (hoff:o=j*5+(f+1)) :
  Calls Tryz.prog 111 #[r.iQ f, .agg #[af e.key,af e.is.c,af e.is.s,af e.is.mi,af e.is.ma,af e.is.t,af e.is.l]] W5 fun y w'=>∃so sc,y = .returned (.tuple #[ah so L sc,af 0])/\aA (fun b=>(r.iQ f).ownBlock=some b) w w' /\
   Bd M (w'.setCell (nb,o) (ah so L sc)) bb (ah nb rs cap) (rs.set j (r.kR f (ah so L sc))) (dz t j x') /\
   qB (dY bb (ah nb rs cap) rs) (dY bb (ah nb rs cap) (rs.set j (r.kR f (ah so L sc)))) w (w'.setCell (nb,o) (ah so L sc)):=by
 have yw:=(h.lt bb (.inl rfl)).1;have hbl:=(h.lt bb (.inl rfl)).2;have hs5:=h5.size;have hm:=xe (w:=W5) (x:=e) (hes.below h5 aO) ai (by have:=hrow.2.2.2;omega) hrow.1 (fun e he=>(hrow.2.1 e he).2) hent.2.1 hrow.2.2.1 hent.2.2;rw [hins]at hm;refine hm.mono ?_;rintro y w' ⟨ht,v',rfl,hown,hv⟩;obtain⟨so,sc,rfl⟩:=hown.isSlice;have hT:aA (fun b=>(r.iQ f).ownBlock=some b) w w':=(aA.of h5 aO).trans ht;obtain⟨q1,q2⟩:=h.field (f:=f) rfl hr hx ai hT (v':=ah so L sc) (x':=x') (by
   have:=hown.row;rw [hN,hC];rcases hf with rfl|rfl <;> exact this) (fun b hb=>by
   rcases hv b hb with e|e
   ·exact .inl e
   ·exact .inr ai) hl ho hoff
 exact⟨so,sc,rfl,hT,q1,q2⟩
theorem EY {l:List aH} (h:A8 l e=some L):yZ l/\mf e/\gJ l e=some L:=by
 unfold A8 at h
 split at h
 ·rename_i hg;exact⟨hg.1,hg.2,h⟩
 ·cases h
theorem Ox {more key:Int} (h:uw (f+1) t n e=some (t',more,key)):∃x,t.dm n=some x /\
  ((x.leaf=true/\∃L,A8 x.aI e=some L/\jn (dz t n { x with aI:=L }) n=some (t',more,key)) \/
  (x.leaf=false/\∃L,A8 x.buf e=some L/\((L.length<=8/\jn (dz t n { x with buf:=L }) n=some (t',more,key)) \/
    (¬L.length<=8/\∃t2,rB (uw f) (dz t n { x with buf:=L }) n=some t2/\jn t2 n=some (t',more,key))))):=by
 unfold uw at h
 split at h
 ·cases h
 rename_i x hx
 refine⟨x,hx,?_⟩
 split at h
 ·rename_i hl
  split at h
  ·cases h
  rename_i L hL
  exact .inl ⟨hl,L,hL,h⟩
 ·rename_i hl
  split at h
  ·cases h
  rename_i L hL
  refine .inr ⟨by simpa using hl,L,hL,?_⟩
  split at h
  ·rename_i h8;exact .inl ⟨h8,h⟩
  ·rename_i h8
   split at h
   ·cases h
   rename_i t2 ht2
   exact .inr ⟨h8,t2,ht2,h⟩
theorem lY {o':Nat} {v u:Value} (h:o≠o') (hq:w.cell? (b,o')=some u):(w.setCell (b,o) v).cell? (b,o')=some u:=by
 unfold World.cell? at hq ⊢;simp only at hq ⊢
 split at hq
 ·rename_i c e fr hb
  rw [aM hb];simp only [Option.isSome_none]at hq ⊢;rw [ar bh]at hq ⊢;rw [Array.getElem?_setIfInBounds_ne h];exact hq
 ·cases hq
theorem mU {v u:Value} (hq:w.cell? (b,o)=some u):(w.setCell (b,o) v).cell? (b,o)=some v:=by
 unfold World.cell? at hq ⊢;simp only at hq ⊢
 split at hq
 ·rename_i c e fr hb
  rw [aM hb];simp only [Option.isSome_none]at hq ⊢;rw [ar bh]at hq ⊢;have:=(eJ.1 hq).1;simp [this]
 ·cases hq
theorem UO (x:Nd) (B:List aH):∀g,g≠0->Nd.fN { x with aI:=B } g=x.fN g/\Nd.fC { x with aI:=B } g=x.fC g:=fun g hg=>by
 rcases mA g 4 with h4|h4
 ·rcases xg h4 with rfl|rfl|rfl|rfl <;> first|exact⟨rfl,rfl⟩|exact absurd rfl hg
 ·obtain⟨k,rfl⟩:∃k,g=k+4:=⟨g-4,ai⟩;exact⟨rfl,rfl⟩
def MW (f:Nat):Prop:=∀{M:Nat} {w:World} {bb:Nat} {nv:Value} {rs:List Raw} {t t':Tr} {n:Int},Bd M w bb nv rs t->rB (uw f) t n=some t' ->
  Calls Tryz.prog 120 #[.pointer (some (bb,0)),af n] w fun e w'=>e = .returned (.tuple #[])/\mZ M bb (dY bb nv rs) w t' w'
theorem QK {more key:Int} (h:Bd M w bb nv rs t) (hx:t.dm n=some x) (O8:x.leaf=true) (hins:A8 x.aI e=some L)
  (hF:jn (dz t n { x with aI:=L }) n=some (t',more,key)) :
  Calls Tryz.prog 109 #[.pointer (some (bb,0)),af n, .agg #[af e.key,af e.is.c,af e.is.s,af e.is.mi,af e.is.ma,af e.is.t,af e.is.l]] w
  fun y w'=>y = .returned (.tuple #[af more,af key])/\mZ M bb (dY bb nv rs) w t' w':=by
 obtain⟨hrow,hent,hins⟩:=EY hins;obtain⟨j,nb,cap,r,rfl,rfl,mo,wm,hjl,hown⟩:=h.place hx;have hvl:=hown.leaf;rw [O8]at hvl;obtain⟨so,sc,hev⟩:=hown.aI.isSlice;obtain⟨W1,hW1⟩:=cd (w.alloc (.cells #[af e.key,af e.is.c,af e.is.s,af e.is.mi,af e.is.ma,af e.is.t,af e.is.l] 107));have hb1:aq w W1:=by rw [hW1];exact aj
 have hz1:W1=w.heap.size+1:=by rw [hW1];simp
 have k1:W1.heap[w.heap.size]?=some (.cells #[af e.key,af e.is.c,af e.is.s,af e.is.mi,af e.is.ma,af e.is.t,af e.is.l] 107):=by rw [hW1];exact au _ _ rfl
 have h1:=h.below hb1 aO;obtain⟨c0,l0,e1,e2,e3,e4,zP,Kr,hbl,hnl,xj⟩:=h1.cells mo;rw [hvl]at l0;have cR:=e1;rw [hev]at cR;have HCF:=ag zP;have hen:w≠nb:=fun e=>by have:=(h.lt nb (.inr (.inl rfl))).2;omega
 have jh:=fun w'=>dU (ab:=nb) (aR:=0) (n:=rs.length) (cap:=cap) (show (j:Int)=((j:Nat):Int) by rfl) hjl w';simp only [iR]at jh;have HM:=ag fun(W5:World) (h5:aq W1 W5)=>h1.merge (j:=j) (f:=0) (x':={ x with aI:=L }) mo wm (.inl rfl) (h1.uz j r x mo wm).aI hrow hent hins h5 rfl (UO x L) rfl rfl (o:=j*5+1) rfl;have Ta:=ag (aJ hb1 (aJ h1 (aJ mo wm)));have MN:=ag k1;have VW:=ag hev;have Uc:=ag (show (ah so x.aI sc).ownBlock≠some nb from fun hh=>(h1.off j r 0 nb mo (by show r.ev.ownBlock=_;rw [hev];exact hh)).2 rfl);have Xh:=ag (show (ah so x.aI sc).ownBlock≠some w.heap.size from fun hh=>by have:=(h.lt w (.inr (.inr ⟨j,r,0,mo,by show r.ev.ownBlock=_;rw [hev];exact hh⟩))).2;omega);have VU:=ag hF;clear h h1 hx hins hrow hent mo wm hown hb1 e1 e2 e3 e4 Kr hvl O8 k1 hev hF zP;go_enter Tryz.func109,Tryz.ntmps109;go_upto_region 1 with (fail);rw [<-hW1];clear hW1;go_upto_region 5 with (fail);have CL:∀(W:World),W.heap[w.heap.size]?=W1.heap[w.heap.size]?->(W.cell? (w,0)=some (af e.key)/\(W,w.heap.size,1,e.is.c)/\(W,w.heap.size,2,e.is.s)/\(W,w.heap.size,3,e.is.mi)/\(W,w.heap.size,4,e.is.ma)/\(W,w.heap.size,5,e.is.t)/\(W,w.heap.size,6,e.is.l)):=fun W hW=>by
  have:=hW.trans MN;simp [World.cell?,this]
 have hS0:=CL W1.drew rfl;clear CL;refine bN [(0,1),(1,1),(2,0),(3,0),(4,3),(5,1),(6,1),(7,1),(8,1),(9,1)] 4
  (fun W=>W.cell? (nb,j*5+1)=some (ah so x.aI sc)/\(W,w.heap.size,0,e.key)/\(W,w.heap.size,1,e.is.c)/\(W,w.heap.size,2,e.is.s)/\(W,w.heap.size,3,e.is.mi)/\(W,w.heap.size,4,e.is.ma)/\(W,w.heap.size,5,e.is.t)/\(W,w.heap.size,6,e.is.l)) cV cV ⟨cR,hS0⟩ ?_
 clear hS0
 (simp only [bV,List.filterMap_cons,List.filterMap_nil,List.getElem?_cons_zero,List.getElem?_cons_succ,Option.map_some])
 (repeat first|refine bg ?_|refine aZ ?_)
 refine bq rfl (fun K hK=>?_);go_simp;have Tf:=HM W1.drew (aW _ _).drew;rw [show r.iQ 0=ah so x.aI sc from VW]at Tf
 (with_reducible refine Tf.mono ?_);rintro y w5 ⟨s5,c5,rfl,ud,Sd,hS5⟩
 clear Tf;go_simp;refine hK _ _ ?_;clear hK K
 (repeat first|refine bg ?_|refine aZ ?_)
 refine cC ?_;have q4:w5.cell? (nb,j*5+1)=some (ah so x.aI sc):=(ud.cell hnl Uc _).trans cR;have qf:w5.frozen? ⟨nb,j*5+1,none⟩=false:=(ud.frozen hnl Uc _).trans (HCF _);have q0:w5.cell? (nb,j*5)=some (.bool true):=(ud.cell hnl Uc _).trans l0;have GF:=ag (aJ Sd hS5);clear ud Sd hS5 cR l0 c0;go_upto_region 10 with (fail);obtain⟨W6,rL⟩:=cd (w5.setCell (nb,j*5+1) (ah s5 L c5));have l6:W6.cell? (nb,j*5)=some (.bool true):=by
  rw [rL];exact lY ai q0
 have HC:=ag (zo (rL▸GF.out.1) VU);have HS6:=ag (rL▸GF.out.2);rw [<-rL];clear rL q4 qf q0;go_wp2_with (go_at_call 119;(with_reducible refine HC.out.mono ?_);rintro y w7 ⟨rfl,hp7⟩)
 go_ret2
 obtain⟨nz,rs',p1,p2⟩:=hp7;exact⟨rfl,nz,rs',p1,((qB.of Ta.1 aO).trans HS6).trans p2⟩
theorem Ow (LR:MW f) {more key:Int} (h:Bd M w bb nv rs t) (hx:t.dm n=some x) (O8:x.leaf=false) (hins:A8 x.buf e=some L)
  (hF:(L.length<=8/\jn (dz t n { x with buf:=L }) n=some (t',more,key))\/(¬L.length<=8/\∃t2,rB (uw f) (dz t n { x with buf:=L }) n=some t2/\jn t2 n=some (t',more,key))) :
  Calls Tryz.prog 109 #[.pointer (some (bb,0)),af n, .agg #[af e.key,af e.is.c,af e.is.s,af e.is.mi,af e.is.ma,af e.is.t,af e.is.l]] w
  fun y w'=>y = .returned (.tuple #[af more,af key])/\mZ M bb (dY bb nv rs) w t' w':=by
 obtain⟨hrow,hent,hins⟩:=EY hins;obtain⟨j,nb,cap,r,rfl,rfl,mo,wm,hjl,hown⟩:=h.place hx;have hvl:=hown.leaf;rw [O8]at hvl;obtain⟨so,sc,hev⟩:=hown.buf.isSlice;obtain⟨W1,hW1⟩:=cd (w.alloc (.cells #[af e.key,af e.is.c,af e.is.s,af e.is.mi,af e.is.ma,af e.is.t,af e.is.l] 107));have hb1:aq w W1:=by rw [hW1];exact aj
 have hz1:W1=w.heap.size+1:=by rw [hW1];simp
 have k1:W1.heap[w.heap.size]?=some (.cells #[af e.key,af e.is.c,af e.is.s,af e.is.mi,af e.is.ma,af e.is.t,af e.is.l] 107):=by rw [hW1];exact au _ _ rfl
 have h1:=h.below hb1 aO;obtain⟨c0,l0,e1,e2,e3,e4,zP,Kr,hbl,hnl,xj⟩:=h1.cells mo;rw [hvl]at l0;have cR:=e4;rw [hev]at cR;have HCF:=ag zP;have hen:w≠nb:=fun e=>by have:=(h.lt nb (.inr (.inl rfl))).2;omega
 have jh:=fun w'=>dU (ab:=nb) (aR:=0) (n:=rs.length) (cap:=cap) (show (j:Int)=((j:Nat):Int) by rfl) hjl w';simp only [iR]at jh;have HM:=ag fun(W5:World) (h5:aq W1 W5)=>h1.merge (j:=j) (f:=3) (x':={ x with buf:=L }) mo wm (.inr rfl) (h1.uz j r x mo wm).buf hrow hent hins h5 rfl (Nk x L) rfl rfl (o:=j*5+4) rfl;have Ta:=ag (aJ hb1 (aJ h1 (aJ mo wm)));have MN:=ag k1;have VW:=ag hev;have Uc:=ag (show (ah so x.buf sc).ownBlock≠some nb from fun hh=>(h1.off j r 3 nb mo (by show r.bv.ownBlock=_;rw [hev];exact hh)).2 rfl);have Xh:=ag (show (ah so x.buf sc).ownBlock≠some w.heap.size from fun hh=>by have:=(h.lt w (.inr (.inr ⟨j,r,3,mo,by show r.bv.ownBlock=_;rw [hev];exact hh⟩))).2;omega);have VU:=ag hF;clear h h1 hx hins hrow hent mo wm hown hb1 e1 e2 e3 e4 Kr hvl O8 k1 hev hF zP;go_enter Tryz.func109,Tryz.ntmps109;go_upto_region 1 with (fail);rw [<-hW1];clear hW1;go_upto_region 5 with (fail);have CL:∀(W:World),W.heap[w.heap.size]?=W1.heap[w.heap.size]?->(W.cell? (w,0)=some (af e.key)/\(W,w.heap.size,1,e.is.c)/\(W,w.heap.size,2,e.is.s)/\(W,w.heap.size,3,e.is.mi)/\(W,w.heap.size,4,e.is.ma)/\(W,w.heap.size,5,e.is.t)/\(W,w.heap.size,6,e.is.l)):=fun W hW=>by
  have:=hW.trans MN;simp [World.cell?,this]
 have hS0:=CL W1.drew rfl;clear CL;refine bN [(0,1),(1,1),(2,0),(3,0),(4,3),(5,1),(6,1),(7,1),(8,1),(9,1)] 4
  (fun W=>W.cell? (nb,j*5+4)=some (ah so x.buf sc)/\(W,w.heap.size,0,e.key)/\(W,w.heap.size,1,e.is.c)/\(W,w.heap.size,2,e.is.s)/\(W,w.heap.size,3,e.is.mi)/\(W,w.heap.size,4,e.is.ma)/\(W,w.heap.size,5,e.is.t)/\(W,w.heap.size,6,e.is.l)) cV cV ⟨cR,hS0⟩ ?_
 clear hS0
 (simp only [bV,List.filterMap_cons,List.filterMap_nil,List.getElem?_cons_zero,List.getElem?_cons_succ,Option.map_some])
 (repeat first|refine bg ?_|refine aZ ?_)
 refine bq rfl (fun K hK=>?_);go_simp;have Tf:=HM W1.drew (aW _ _).drew;rw [show r.iQ 3=ah so x.buf sc from VW]at Tf
 (with_reducible refine Tf.mono ?_);rintro y w5 ⟨s5,c5,rfl,ud,Sd,hS5⟩
 clear Tf;go_simp;refine hK _ _ ?_;clear hK K
 (repeat first|refine bg ?_|refine aZ ?_)
 refine cC ?_;have q4:w5.cell? (nb,j*5+4)=some (ah so x.buf sc):=(ud.cell hnl Uc _).trans cR;have qf:w5.frozen? ⟨nb,j*5+4,none⟩=false:=(ud.frozen hnl Uc _).trans (HCF _);have q0:w5.cell? (nb,j*5)=some (.bool false):=(ud.cell hnl Uc _).trans l0;have GF:=ag (aJ Sd hS5);clear ud Sd hS5 cR l0 c0;go_upto_region 10 with (fail);obtain⟨W6,rL⟩:=cd (w5.setCell (nb,j*5+4) (ah s5 L c5));have l6:W6.cell? (nb,j*5)=some (.bool false):=by
  rw [rL];exact lY ai q0
 have b6:W6.cell? (nb,j*5+4)=some (ah s5 L c5):=by rw [rL];exact mU q4
 have pM:=ag (rL▸GF.out.1);have HS6:=ag (rL▸GF.out.2);rw [<-rL];clear rL q4 qf q0;rcases VU.out with ⟨h8,hF⟩|⟨h8,t2,hF1,hF2⟩
 ·have HC:=ag (zo pM hF);go_wp2_with (go_at_call 119;(with_reducible refine HC.out.mono ?_);rintro y w7 ⟨rfl,hp7⟩)
  go_ret2
  obtain⟨nz,rs',p1,p2⟩:=hp7;exact⟨rfl,nz,rs',p1,((qB.of Ta.1 aO).trans HS6).trans p2⟩
 ·have HC:=ag (LR pM hF1);go_wp2_with (first
   |(go_at_call 120;(with_reducible refine HC.out.mono ?_);rintro y w7 ⟨rfl,hp7⟩;obtain⟨nv7,Z6,p1,p2⟩:=hp7;have TZ:=ag (aJ p1 p2);clear p1 p2)
   |(go_at_call 119;(with_reducible refine(zo TZ.out.1 hF2).mono ?_);rintro y w8 ⟨rfl,hp8⟩))
  go_ret2
  obtain⟨nz,rs',p1,p2⟩:=hp8;exact⟨rfl,nz,rs',p1,(((qB.of Ta.1 aO).trans HS6).trans TZ.2).trans p2⟩
theorem QJ (LR:MW f):VH (f+1):=fun h hF=>by
 obtain⟨x,hx,⟨hl,L,hL,hs⟩|⟨hl,L,hL,hs⟩⟩:=Ox hF
 ·exact QK h hx hl hL hs
 ·exact Ow LR h hx hl hL hs
end
theorem Pv {f:Nat} (hput:VH f) {M:Nat} {w:World} {bb:Nat} {nv:Value} {rs:List Raw} {t t':Tr} {n:Int} (h:Bd M w bb nv rs t) (hF:rB (uw f) t n=some t') :
  Calls Tryz.prog 120 #[.pointer (some (bb,0)),af n] w fun e w'=>e = .returned (.tuple #[])/\mZ M bb (dY bb nv rs) w t' w':=by
 obtain⟨x,hx,hks,hkl,ajk,NA,hF⟩:=Ji hF;obtain⟨qF,R6⟩:=bG (jZ (jV x) 4);rw [R6]at hF;obtain⟨j,nb,cap,r,rfl,rfl,mo,wm,hjl,hown⟩:=h.place hx;obtain⟨c0,k0,k1,k2,k3,k4,zP,Kr,hbl,hnl,xj⟩:=h.cells mo;obtain⟨es,ec,hev⟩:=hown.aI.isSlice;obtain⟨ks,kc,yx⟩:=hown.keys.isSlice;obtain⟨ds,dc,Bb⟩:=hown.kids.isSlice;obtain⟨bs,bc,vR⟩:=hown.buf.isSlice;have hok:=hown.keys;have ni:=hown.buf;rw [yx]at hok;rw [vR]at ni;rw [hev]at k1;rw [yx]at k2;rw [Bb]at k3;rw [vR]at k4;have hM:M<=w:=by have:=(h.lt bb (.inl rfl)).1;omega
 have jh:=fun w'=>dU (ab:=nb) (aR:=0) (n:=rs.length) (cap:=cap) (show (j:Int)=((j:Nat):Int) by rfl) hjl w';simp only [iR]at jh;obtain⟨W1,hW1⟩:=cd (w.alloc (.cells #[.bool r.leaf,ah es x.aI ec,ah ks x.keys kc,ah ds x.kids dc,ah bs x.buf bc] 125));obtain⟨W2,hW2⟩:=cd (W1.alloc (.cells #[af 0,af 0,af 0,af 0] 189));have hz1:W1=w.heap.size+1:=by rw [hW1];simp
 have hz2:W2=w.heap.size+2:=by rw [hW2];simp [hz1]
 have hb1:aq w W1:=by rw [hW1];exact aj
 have hb2:aq w W2:=hb1.trans (by rw [hW2];exact(aW _ _).alloc ai _);have kx:W2.heap[w.heap.size]?=some (.cells #[.bool r.leaf,ah es x.aI ec,ah ks x.keys kc,ah ds x.kids dc,ah bs x.buf bc] 125):=by
  rw [hW2];refine((aW W1 W1).alloc aO _).block _ ai |>.trans ?_;rw [hW1];exact au _ _ rfl
 have ka:W2.heap[w.heap.size+1]?=some (.cells #[af 0,af 0,af 0,af 0] 189):=by rw [<-hz1,hW2];exact au _ _ rfl
 have DV:=ag (aJ h (aJ mo (aJ wm (aJ hown (aJ hF R6)))));have HBV:=ag (aJ vR (aJ yx (aJ Bb hev)));clear h mo wm hown hF R6 vR yx Bb hev hx;go_enter Tryz.func120,Tryz.ntmps120;go_upto_region 2 with (fail);rw [<-hW1,<-hW2];clear hW1 hW2 c0 k0 k1 k2 k3 k4 zP Kr jh;have hX4:W2.cell? (w,4)=some (ah bs x.buf bc):=by simp [World.cell?,kx]
 have oL:=ag hb2;have HKX:=ag kx;have HKA:=ag ka;have Qj:=ag (aJ hok ni);have DC:=ag (aJ hks hkl);clear hb1 hb2 kx ka hok ni hks hkl;go_wp2_with fail;clear hX4
 go_loopg [31] x.buf (fun g i wr=>∃k:Nat,k<=x.buf/\g=x.buf-k/\i=af k/\Hid (aq w wr/\w+2<=wr.heap.size/\wr.heap[w.heap.size]?=some (.cells #[.bool r.leaf,ah es x.aI ec,ah ks x.keys kc,ah ds x.kids dc,ah bs x.buf bc] 125)/\wr.heap[w.heap.size+1]?=some (.cells (Kh x k) 189)))
 case atStart=>exact⟨0,eY _,rfl,rfl,ag ⟨oL,ai,HKX,HKA⟩⟩
 case round=>
  clear oL HKX HKA;obtain⟨k,hk,rfl,rfl,HR⟩:=hrel;by_cases ir:k<x.buf
  ·obtain⟨cT,Wo,kx,ka⟩:=HR.out;obtain⟨hok,ni⟩:=Qj.out;obtain⟨hks,hkl⟩:=DC.out;obtain⟨_,_,hv,-,-,-,-,h5⟩:=ni.at ai;injection hv with hv1 _ hv3;subst hv3;obtain⟨eb,cM,ll,pq,jF⟩:=h5 ai;subst ll;subst hv1;obtain⟨y0,y1,y2,y3,y4,y5,y6⟩:=br cT pq jF ir;have hcs:=fun i=>SE ir i;obtain⟨y,hy⟩:=bG (x.buf[k]);rw [hy]at y0 y1 y2 y3 y4 y5 y6 hcs;have RL:bL x.keys y.key<=3:=by have:=uD x.keys y.key;omega
   have zb:=ag fun(W:World) (hW:aq w W)=>Bq (lf:=r.leaf) (ev:=ah es x.aI ec) (dv:=ah ds x.kids dc) (bv:=ah (some (eb,cM)) x.buf bc) (x:=y.key) ((hok.at ai).below hW aO) hks;obtain⟨i,hi⟩:=bG (bL x.keys y.key);rw [hi]at hcs RL zb;have HCS:=ag hcs;obtain⟨W8,mq⟩:=cd (wr.alloc (.cells #[af y.key,af y.is.c,af y.is.s,af y.is.mi,af y.is.ma,af y.is.t,af y.is.l] 107));have jf:aq wr W8:=by rw [mq];exact aj
   have IV:W8=wr.heap.size+1:=by rw [mq];simp
   have k8:W8.heap[wr.heap.size]?=some (.cells #[af y.key,af y.is.c,af y.is.s,af y.is.mi,af y.is.ma,af y.is.t,af y.is.l] 107):=by rw [mq];exact au _ _ rfl
   have IA:=(jf.block w ai).trans kx;have ka8:=(jf.block (w+1) ai).trans ka;have yE:=aF cT jf cT.size;have jA:=fun w'=>cN (ab:=eb) (aR:=cM) (n:=x.buf.length) (cap:=bc) (show (k:Int)=((k:Nat):Int) by rfl) ir w';have s0:W8.cell? (wr,0)=some (af y.key):=by simp [World.cell?,k8]
   have x0:W8.cell? (w,0)=some (.bool r.leaf):=by simp [World.cell?,IA]
   have x1:W8.cell? (w,1)=some (ah es x.aI ec):=by simp [World.cell?,IA]
   have x2:W8.cell? (w,2)=some (ah ks x.keys kc):=by simp [World.cell?,IA]
   have x3:W8.cell? (w,3)=some (ah ds x.kids dc):=by simp [World.cell?,IA]
   have x4:W8.cell? (w,4)=some (ah (some (eb,cM)) x.buf bc):=by simp [World.cell?,IA]
   have gV:=ag (aJ yE (aJ IA ka8));clear cT kx ka hok ni hks hkl h5 jF hy hi hcs k8 IA ka8 HR;go_upto_region 5 with (fail);rw [<-mq];clear mq jf y0 y1 y2 y3 y4 y5 y6 jA yE;have afR:w≠w.heap.size+1:=ai;go_wp2_with ((go_at_call 118;(with_reducible refine(zb.out _ gV.out.1).mono ?_);rintro e w9 ⟨rfl,kS⟩;obtain⟨yE,IA,ka8⟩:=gV.out;have ag6:=yE.size;have OO:=(kS.block w ai).trans IA;have Z8:=(kS.block (w+1) ai).trans ka8;have RY:=aF yE kS yE.size;have O4:w+2<=w9.heap.size:=(by have:=kS.size;omega);have hfz:∀o,w9.frozen? ⟨w.heap.size+1,o,none⟩=false:=(fun o=>by simp [World.frozen?,Z8,Kh]);obtain⟨ci,hci⟩:=bG (cnt x k i);have hcl:ci<=20:=(by have:=Zf x k i;omega);have hai:w9.cell? (w,1,i)=some (af (ci:Int)):=(by rw [<-hci];rcases UU RL with rfl|rfl|rfl|rfl <;> simp [World.cell?,Z8,Kh]);have Uk:=ag (aJ hci (aJ OO (aJ Z8 (aJ RY O4))));clear hci OO Z8 RY O4 yE IA ka8 ag6 kS))
   go_roundg (x.buf-(k+1))
   case measure=>omega
   case rel=>
    obtain⟨hci,OO,Z8,RY,O4⟩:=Uk.out;refine⟨k+1,ai,rfl,by go_num,ag ⟨?_,?_,?_,?_⟩⟩
    ·exact Below.setCell RY (by show w<=w.heap.size+1;omega) _
    ·simp;omega
    ·exact(cH _ ⟨_,_,none⟩ _ _ afR).trans OO
    ·have hs:=Pk (v:=af ((ci:Int)+1)) Z8 RL;refine hs.trans ?_;unfold Kh;rw [HCS 0,HCS 1,HCS 2,HCS 3];subst hci;rcases UU RL with rfl|rfl|rfl|rfl <;> simp
  ·obtain rfl:k=x.buf:=ai;obtain⟨cT,Wo,kx,ka⟩:=HR.out;have a0:wr.cell? (w,1,0)=some (af (jV x 0:Nat)):=by rw [<-Bw];simp [World.cell?,ka,Kh]
   have a1:wr.cell? (w,1,1)=some (af (jV x 1:Nat)):=by rw [<-Bw];simp [World.cell?,ka,Kh]
   have a2:wr.cell? (w,1,2)=some (af (jV x 2:Nat)):=by rw [<-Bw];simp [World.cell?,ka,Kh]
   have a3:wr.cell? (w,1,3)=some (af (jV x 3:Nat)):=by rw [<-Bw];simp [World.cell?,ka,Kh]
   have HP:=ag (aJ cT (aJ Wo kx));clear cT Wo kx ka HR hk;have hab:∀b,b<=3->wr.cell? ⟨w.heap.size+1,b,none⟩=some (af (jV x b:Nat)):=fun b hb=>by rcases UU hb with rfl|rfl|rfl|rfl <;> assumption
   obtain⟨m,hm⟩:=bG (jV x);rw [hm]at a0 a1 a2 a3 hab DV;have Tp:=ag hab;clear hab;go_wp2_with fail;clear a0 a1 a2 a3
   go_loopg [45,8] 4 (fun g i b w2=>∃k:Nat,k<=4/\g=4-k/\i=af k/\b=af (jZ m k:Nat)/\w2=wr)
   case atStart=>exact⟨0,ai,rfl,rfl,rfl,rfl⟩
   case round=>
    obtain⟨k,hk,rfl,rfl,rfl,rfl⟩:=hrel;by_cases O7:k<4
    ·have jA:=fun w'=>Rm (m:=m) O7 w';have hb3:=JO m k hk;have GN:jZ m (k+1)=if m (jZ m k)<m k then k else jZ m k:=rfl;obtain⟨b,hb⟩:=bG (jZ m k);rw [hb]at hb3 GN ⊢;have hab:=Tp b hb3;obtain⟨mk,hmk⟩:=bG (m k);obtain⟨mb,hmb⟩:=bG (m b);rw [hmk]at jA GN;rw [hmb]at hab GN;have HSB:=ag GN;clear GN hb hmk hmb;by_cases i1:mb<mk
     ·go_wp2_with fail;go_roundg (4-(k+1))
      case measure=>omega
      case rel=>exact⟨k+1,ai,rfl,by go_num,by rw [HSB,aw i1],rfl⟩
     ·go_wp2_with fail;go_roundg (4-(k+1))
      case measure=>omega
      case rel=>exact⟨k+1,ai,rfl,by go_num,by rw [HSB,ar i1],rfl⟩
    ·obtain rfl:k=4:=ai;clear hk O7;have hbb:jZ m 4=qF:=DV.2.2.2.2.2;rw [hbb];obtain⟨Wa,hWa⟩:=cd (wr);subst hWa;have hX4:Wa.cell? (w,4)=some (ah bs x.buf bc):=(by simp [World.cell?,HP.out.2.2]);go_wp2_with fail;clear hX4
     go_loopg [59,12,11] x.buf (fun g i dv sv w3=>∃k:Nat,k<=x.buf/\g=x.buf-k/\i=af k/\Hid (R3 x qF Wa Wa w3 k dv sv))
     case atStart=>exact⟨0,ai,rfl,rfl,ag ⟨aW _ _,ay.nil _ _,ay.nil _ _,fun b hb=>by cases hb⟩⟩
     case round=>
      obtain⟨k,hk,rfl,rfl,HR⟩:=hrel;by_cases ir:k<x.buf
      ·obtain⟨cT,wI,hos,hap⟩:=HR.out;obtain⟨hb0,Wo,kx⟩:=HP.out;have X3:=hb0.size;have hsw:=cT.size;obtain⟨hok,ni⟩:=Qj.out;obtain⟨hks,hkl⟩:=DC.out;obtain⟨_,_,hv,-,-,-,-,h5⟩:=ni.at ai;injection hv with hv1 _ hv3;subst hv3;obtain⟨eb,cM,ll,pq,jF⟩:=h5 ai;subst ll;subst hv1;have zJ:=aF hb0 cT X3;have kx3:=(cT.block w ai).trans kx;obtain⟨y0,y1,y2,y3,y4,y5,y6⟩:=br zJ pq jF ir;have RL:bL x.keys x.buf[k].key<=3:=(by have:=uD x.keys x.buf[k].key;omega);have WM:=fun(w9 mE:World) (v:Value) (hk:bL x.keys x.buf[k].key=qF) (h9:aq wr w9)=>R3.down (mE:=mE) (v:=v) HR.out aO ir hk h9;have DL:=fun(w9 mE:World) (v:Value) (hk:¬bL x.keys x.buf[k].key=qF) (h9:aq wr w9)=>R3.stay (mE:=mE) (v:=v) HR.out aO ir hk h9;obtain⟨y,hy⟩:=bG (x.buf[k]);rw [hy]at y0 y1 y2 y3 y4 y5 y6 RL WM DL;have zb:=ag fun(W:World) (hW:aq w W)=>Bq (lf:=r.leaf) (ev:=ah es x.aI ec) (dv:=ah ds x.kids dc) (bv:=ah (some (eb,cM)) x.buf bc) (x:=y.key) ((hok.at ai).below hW aO) hks;obtain⟨i,hi⟩:=bG (bL x.keys y.key);rw [hi]at RL zb WM DL;obtain⟨LD,WV⟩:=bG (((x.buf.take k).filter fun e=>decide (bL x.keys e.key=qF)));obtain⟨LS,WU⟩:=bG (((x.buf.take k).filter fun e=>!decide (bL x.keys e.key=qF)));have acR:LD.length<=20:=(by rw [<-WV];exact fZ (ub _ _) (by rw [gh];omega));have ahs:LS.length<=20:=(by rw [<-WU];exact fZ (ub _ _) (by rw [gh];omega));rw [WV]at wI WM;rw [WU]at hos DL;obtain⟨dvo,WX,rfl⟩:=wI.isSlice;obtain⟨svo,svc,rfl⟩:=hos.isSlice;obtain⟨W8,mq⟩:=cd (wr.alloc (.cells #[af y.key,af y.is.c,af y.is.s,af y.is.mi,af y.is.ma,af y.is.t,af y.is.l] 107));have jf:aq wr W8:=(by rw [mq];exact aj);have IV:W8=wr.heap.size+1:=(by rw [mq];simp);have k8:W8.heap[wr.heap.size]?=some (.cells #[af y.key,af y.is.c,af y.is.s,af y.is.mi,af y.is.ma,af y.is.t,af y.is.l] 107):=(by rw [mq];exact au _ _ rfl);have IA:=(jf.block w ai).trans kx3;have yE:=aF zJ jf zJ.size;have jA:=fun w'=>cN (ab:=eb) (aR:=cM) (n:=x.buf.length) (cap:=bc) (show (k:Int)=((k:Nat):Int) by rfl) ir w';have s0:W8.cell? (wr,0)=some (af y.key):=(by simp [World.cell?,k8]);have x0:W8.cell? (w,0)=some (.bool r.leaf):=(by simp [World.cell?,IA]);have x1:W8.cell? (w,1)=some (ah es x.aI ec):=(by simp [World.cell?,IA]);have x2:W8.cell? (w,2)=some (ah ks x.keys kc):=(by simp [World.cell?,IA]);have x3:W8.cell? (w,3)=some (ah ds x.kids dc):=(by simp [World.cell?,IA]);have x4:W8.cell? (w,4)=some (ah (some (eb,cM)) x.buf bc):=(by simp [World.cell?,IA]);have LK:=wI.below jf aO;have LJ:=hos.below jf aO;have gV:=ag (aJ yE (aJ k8 (aJ jf (aJ LK LJ))));have HST:=ag (aJ WM (aJ DL hy));clear cT kx hok ni hks hkl h5 jF hy hi k8 IA HR WM DL wI hos LK LJ hap WV WU zJ kx3 hb0 pq;go_upto_region 18 with (fail);rw [<-mq];clear mq jf y0 y1 y2 y3 y4 y5 y6 jA yE;by_cases i1:i=qF
       ·go_wp2_with (first
         |(go_at_call 118;(with_reducible refine(zb.out _ gV.out.1).mono ?_);rintro e w9 ⟨rfl,kS⟩;obtain⟨yE,k8,jf,LK,LJ⟩:=gV.out;have X8:=LK.below kS aO;have U3:wr+1<=w9.heap.size:=(by have:=kS.size;omega);have k9:=(kS.block wr ai).trans k8;obtain⟨y0,y1,y2,y3,y4,y5,y6⟩:=(show (w9,wr.heap.size,0,y.key)/\(w9,wr.heap.size,1,y.is.c)/\(w9,wr.heap.size,2,y.is.s)/\(w9,wr.heap.size,3,y.is.mi)/\(w9,wr.heap.size,4,y.is.ma)/\(w9,wr.heap.size,5,y.is.t)/\(w9,wr.heap.size,6,y.is.l)from (by simp [World.cell?,k9]));have DW:=ag (show aq wr w9 from aF jf kS ai);clear yE k8 jf LK LJ kS k9)
         |(at_builtin;refine pV rfl (.tmp 69) (.tmp 71) rfl Wa (ah dvo LD WX) LD rfl jY ⟨_,0,none⟩ y rfl (fun j u h=>ik h) ai dI ?_;intro v10 mE QU yD XW))
        go_roundg (x.buf-(k+1))
        case measure=>omega
        case rel=>
         obtain⟨WM,DL,hy⟩:=HST.out;exact⟨k+1,ai,rfl,by go_num,ag (WM _ mE v10 i1 (DW.out.alloc ai _) QU yD XW)⟩
       ·go_wp2_with (first
         |(go_at_call 118;(with_reducible refine(zb.out _ gV.out.1).mono ?_);rintro e w9 ⟨rfl,kS⟩;obtain⟨yE,k8,jf,LK,LJ⟩:=gV.out;have alN:=LJ.below kS aO;have U3:wr+1<=w9.heap.size:=(by have:=kS.size;omega);have k9:=(kS.block wr ai).trans k8;obtain⟨y0,y1,y2,y3,y4,y5,y6⟩:=(show (w9,wr.heap.size,0,y.key)/\(w9,wr.heap.size,1,y.is.c)/\(w9,wr.heap.size,2,y.is.s)/\(w9,wr.heap.size,3,y.is.mi)/\(w9,wr.heap.size,4,y.is.ma)/\(w9,wr.heap.size,5,y.is.t)/\(w9,wr.heap.size,6,y.is.l)from (by simp [World.cell?,k9]));have DW:=ag (show aq wr w9 from aF jf kS ai);clear yE k8 jf LK LJ kS k9)
         |(at_builtin;refine pV rfl (.tmp 73) (.tmp 75) rfl Wa (ah svo LS svc) LS rfl jY ⟨_,0,none⟩ y rfl (fun j u h=>ik h) ai dI ?_;intro v10 mE QU yD XW))
        go_roundg (x.buf-(k+1))
        case measure=>omega
        case rel=>
         obtain⟨WM,DL,hy⟩:=HST.out;exact⟨k+1,ai,rfl,by go_num,ag (DL _ mE v10 i1 (DW.out.alloc ai _) QU yD XW)⟩
      ·obtain rfl:k=x.buf:=ai;obtain⟨h,mo,wm,hown,-,-⟩:=DV.out;obtain⟨cT,wI,hos,hap⟩:=HR.out;obtain⟨hb0,Wo,kx⟩:=HP.out;have X3:=hb0.size;have hsw:=cT.size;rw [List.take_length]at wI hos;have zJ:=aF hb0 cT X3;have kx3:=(cT.block w ai).trans kx;obtain⟨LD,WV⟩:=bG ((x.buf.filter fun e=>decide (bL x.keys e.key=qF)));obtain⟨LS,WU⟩:=bG ((x.buf.filter fun e=>!decide (bL x.keys e.key=qF)));have acR:LD.length<=20:=(by rw [<-WV];exact fZ (ub _ _) ai);have ahs:LS.length<=20:=(by rw [<-WU];exact fZ (ub _ _) ai);rw [WV]at wI;rw [WU]at hos;obtain⟨dvo,WX,rfl⟩:=wI.isSlice;obtain⟨svo,svc,rfl⟩:=hos.isSlice;have h3:=h.below zJ aO;obtain⟨c0,-,-,-,-,c4,zP,-⟩:=h3.cells mo;have jh:=fun w'=>dU (ab:=nb) (aR:=0) (n:=rs.length) (cap:=cap) (show (j:Int)=((j:Nat):Int) by rfl) hjl w';simp only [iR]at jh;obtain⟨q1,q2⟩:=h.field (f:=3) rfl mo wm ai (w1:=wr) (v':=ah svo LS svc) (x':={ x with buf:=LS }) (aA.of zJ aO) (hos.mono ai).row (fun b hb=> .inr (by have:=(hos.lt b hb).1;omega)) rfl (Nk x LS) rfl;have HN:=ag (show R4 M bb (dY bb (ah nb rs cap) rs) w (wr.setCell (nb,j*5+4) (ah svo LS svc)) w (ah dvo LD WX) (uw f) j LD (LD.drop 0) t' from by
        have hft:∀b,dY bb (ah nb rs cap) rs b->b<w.heap.size:=fun b hb=>(h.lt b hb).2;refine⟨_,_,_,_,_,_,_,_,q1,q2,(wI.mono ai).block fun g hg=>cH _ ⟨nb,_,none⟩ _ _ (fun e=>by have:=(wI.lt g hg).1;have e:g=nb:=e;omega),fun b hb hf=>?_,(cH _ ⟨nb,_,none⟩ _ _ (by show w≠nb;omega)).trans kx3,fun hf=>?_,fun hb=>?_,?_⟩
        ·rcases E7 mo ai hf with h1|h1
         ·have:=hft b h1;have:=(wI.lt b hb).1;omega
         ·exact hap b h1 hb
        ·rcases E7 mo ai hf with h1|h1
         ·have:=hft _ h1;omega
         ·have:=(hos.lt _ h1).1;omega
        ·have:=(wI.lt _ hb).1;omega
        ·have hF:=DV.2.2.2.2.1;rw [WV,WU]at hF;exact hF)
       clear q1 q2 h3 hown cT wI hos hap hb0 kx zJ kx3 WV WU HR HP NA;go_wp2_with fail;clear c0 c4 zP jh
       go_loopg [89] LD (fun g i w3=>∃k:Nat,k<=LD/\g=LD-k/\i=af k/\Hid (R4 M bb (dY bb (ah nb rs cap) rs) w w3 w (ah dvo LD WX) (uw f) j LD (LD.drop k) t'))
       case atStart=>exact⟨0,ai,rfl,rfl,HN⟩
       case round=>
        clear HN;obtain⟨k,hk,rfl,rfl,HR⟩:=hrel;by_cases tz:k<LD
        ·obtain⟨nz,rs',tk,a0,a1,a2,a3,a4,hB,hS,wI,hdF,Wq,hxF,hdx,hD⟩:=HR.out;obtain⟨y,hy⟩:=bG (LD[k]);rw [qI tz,hy]at hD;obtain⟨z,kd,t1,more,key,t2,z2,hz,⟨hzk,alo,aiL⟩,Yo,hp,hkf,hz2,hrest⟩:=Mm hD;obtain⟨j',nb',cap',r',hjj,rfl,Ry,hzj,agF,hown'⟩:=hB.place hz;obtain rfl:j'=j:=ai;obtain⟨es',ec',ac9⟩:=hown'.aI.isSlice;obtain⟨ks',XS,Pb⟩:=hown'.keys.isSlice;obtain⟨ds',TP,Vj⟩:=hown'.kids.isSlice;obtain⟨bs',bc',ach⟩:=hown'.buf.isSlice;obtain⟨i,hi⟩:=bG (bL z.keys y.key);rw [hi]at Yo hkf;have hil:i<z.kids:=(dW.1 Yo).1;obtain⟨db,Da,bY,acd,ah0,RU⟩:=gM.get (hown'.kids.at ai) Yo;rw [Vj]at acd;injection acd with ah2 _ ah1;subst ah2 ah1;obtain⟨_,_,hv,-,-,-,-,h5⟩:=wI.at ai;injection hv with hv1 _ hv3;subst hv3;obtain⟨eb,cM,ll,pq,jF⟩:=h5 ai;subst ll;subst hv1;obtain⟨y0,y1,y2,y3,y4,y5,y6⟩:=br (aW _ _) pq jF tz;rw [hy]at y0 y1 y2 y3 y4 y5 y6;have afS:w<wr.heap.size:=(eJ.1 Wq).1;obtain⟨W8,mq⟩:=cd (wr.alloc (.cells #[af y.key,af y.is.c,af y.is.s,af y.is.mi,af y.is.ma,af y.is.t,af y.is.l] 107));have jf:aq wr W8:=(by rw [mq];exact aj);have IV:W8=wr.heap.size+1:=(by rw [mq];simp);have k8:W8.heap[wr.heap.size]?=some (.cells #[af y.key,af y.is.c,af y.is.s,af y.is.mi,af y.is.ma,af y.is.t,af y.is.l] 107):=(by rw [mq];exact au _ _ rfl);have NC:=hB.below jf aO;have IX:=(jf.block _ afS).trans Wq;obtain⟨c0,n0,n1,n2,n3,n4,-,-,amz,alS,amx⟩:=NC.cells Ry;rw [ac9]at n1;rw [Pb]at n2;rw [Vj]at n3;rw [ach]at n4;have x0:W8.cell? (w,0)=some a0:=(by simp [World.cell?,IX]);have x1:W8.cell? (w,1)=some a1:=(by simp [World.cell?,IX]);have x2:W8.cell? (w,2)=some a2:=(by simp [World.cell?,IX]);have x3:W8.cell? (w,3)=some a3:=(by simp [World.cell?,IX]);have x4:W8.cell? (w,4)=some a4:=(by simp [World.cell?,IX]);have xf:∀o,W8.frozen? ⟨w.heap.size,o,none⟩=false:=fun o=>(by simp [World.frozen?,IX]);obtain⟨W9,xF⟩:=cd (((((W8.setCell (w,0) (.bool r'.leaf)).setCell (w,1) (ah es' z.aI ec')).setCell (w,2) (ah ks' z.keys XS)).setCell (w,3) (ah (some (db,Da)) z.kids TP)).setCell (w,4) (ah bs' z.buf bc'));have U3:W9=wr.heap.size+1:=(by rw [xF];simp [IV]);have OO:W9.heap[w.heap.size]?=some (.cells #[.bool r'.leaf,ah es' z.aI ec',ah ks' z.keys XS,ah (some (db,Da)) z.kids TP,ah bs' z.buf bc'] 125):=by
          rw [xF];have:=aM (off:=4) (v:=ah bs' z.buf bc') (aM (off:=3) (v:=ah (some (db,Da)) z.kids TP) (aM (off:=2) (v:=ah ks' z.keys XS) (aM (off:=1) (v:=ah es' z.aI ec') (aM (off:=0) (v:= .bool r'.leaf) IX))));simpa using this
         have h9:∀b,b≠w.heap.size->W9.heap[b]?=W8.heap[b]?:=fun b hb=>(by rw [xF];exact nN (i:=0) hb);have jA:=fun w'=>cN (ab:=eb) (aR:=cM) (n:=LD.length) (cap:=WX) (show (k:Int)=((k:Nat):Int) by rfl) tz w';have jh:=fun w'=>dU (ab:=nb') (aR:=0) (n:=rs'.length) (cap:=cap') (show (j':Int)=((j':Nat):Int) by rfl) agF w';simp only [iR]at jh;have NB:Bd M W9 bb (ah nb' rs' cap') rs' tk:=NC.world fun b hb=>h9 b (fun e=>hxF (e▸hb));have YT:aA (fun b=>b=w.heap.size) wr W9:=by
          rw [xF];exact Oe (aA.of jf aO) _ _ _ _ _
         have hS9:qB (dY bb (ah nb rs cap) rs) (dY bb (ah nb' rs' cap') rs') w W9:=⟨hS.turn.trans' YT (fun i hi e=>ai),hS.new⟩;have X8:ay M W9 (ah (some (eb,cM)) LD WX) LD:=wI.block fun g hg=>(h9 g (fun e=>hdx (by rw [hg,e]))).trans (jf.block g (wI.lt g hg).2);have ke9:=(h9 wr ai).trans k8;have hQ9:Q5 M bb (dY bb (ah nb rs cap) rs) w W9 w wr (ah (some (eb,cM)) LD WX) LD y (ah nb' rs' cap') rs' tk:=
          ⟨NB,hS9,X8,hdF,⟨_,_,_,_,_,OO⟩,hxF,hdx,ke9,fun hf=>by have:=(hB.lt _ hf).2;omega⟩
         have RS:W9.cell? (db,Da+i)=some (af kd):=(oH ((h9 db (fun e=>hxF (by rw [<-e];exact .inr (.inr ⟨j',r',2,Ry,by show r'.dv.ownBlock=_;rw [Vj];rfl⟩)))).trans (jf.block db ah0))).trans RU;have ace:db<W9:=ai;have zb:=ag (Bq (lf:=r'.leaf) (ev:=ah es' z.aI ec') (dv:=ah (some (db,Da)) z.kids TP) (bv:=ah bs' z.buf bc') (x:=y.key) ((show bU M W9 (ah ks' z.keys XS) z.keys from Pb▸(NB.uz j' r' z Ry hzj).keys).at ai) hzk);rw [hi]at zb;have HQ:=ag (aJ hQ9 (aJ RS ace));have HKX:=ag OO;have HF:=ag (aJ hp (aJ hkf (aJ hz2 hrest)));have s9:W9.cell? (wr,0)=some (af y.key):=(by simp [World.cell?,ke9]);have u0:W9.cell? (w,0)=some (.bool r'.leaf):=(by simp [World.cell?,OO]);have u1:W9.cell? (w,1)=some (ah es' z.aI ec'):=(by simp [World.cell?,OO]);have u2:W9.cell? (w,2)=some (ah ks' z.keys XS):=(by simp [World.cell?,OO]);have u3:W9.cell? (w,3)=some (ah (some (db,Da)) z.kids TP):=(by simp [World.cell?,OO]);have u4:W9.cell? (w,4)=some (ah bs' z.buf bc'):=(by simp [World.cell?,OO]);have HRZ:=ag (aJ Ry hzj);clear hB hS wI hdF Wq hxF hdx hD hz hzk Yo hp hkf hz2 hrest Ry hzj hown' ac9 Pb Vj ach RU h5 pq jF jf NC IX h9 NB YT hS9 X8 hQ9 RS OO ke9 HR hi k8 hy;have HW9:=ag xF;have HI1:=ag jh;clear xF;go_upto_region 26 with (fail);rw [<-mq];clear y0 y1 y2 y3 y4 y5 y6 jA mq;go_upto_region 27 with (fail);rw [<-HW9];clear c0 n0 n1 n2 n3 n4 x0 x1 x2 x3 x4 xf HW9 jh;go_upto_region 28 with ((go_at_call 118;(with_reducible refine zb.out.mono ?_);rintro e mE ⟨rfl,tA⟩));clear s9 u0 u1 u2 u3 u4;obtain⟨hQ9,RS,-⟩:=HQ.out;have Rp:=tA.size;have Vr:=hQ9.below tA;have WI:=(tA.block w ai).trans HKX;have WL:=(tA.cell (p:=(db,Da+i)) ace).trans RS;have q3:mE.cell? (w,3)=some (ah (some (db,Da)) z.kids TP):=(by simp [World.cell?,WI]);obtain⟨s0,s1,s2,s3,s4,s5,s6⟩:=(show (mE,wr.heap.size,0,y.key)/\(mE,wr.heap.size,1,y.is.c)/\(mE,wr.heap.size,2,y.is.s)/\(mE,wr.heap.size,3,y.is.mi)/\(mE,wr.heap.size,4,y.is.ma)/\(mE,wr.heap.size,5,y.is.t)/\(mE,wr.heap.size,6,y.is.l)from by simp [World.cell?,Vr.ent]);have ads:=ag Vr;have PZ:=ag (hput (Vr.bd.drew) HF.1);clear hQ9 RS Vr WI tA;have agK:=fun w'=>jL (ab:=db) (aR:=Da) (n:=z.kids.length) (cap:=TP) (show (i:Int)=((i:Nat):Int) by rfl) hil w';refine bN [(0,1),(1,1),(2,0),(3,1),(4,1),(5,0),(6,0),(7,3),(8,1),(9,1),(10,1),(11,1),(12,1)] 7
          (fun W=>W.cell? ⟨w.heap.size,3,none⟩=some (.slice (some ⟨db,Da,none⟩) z.kids.length TP)/\W.cell? ⟨db,Da+i,none⟩=some (.int .i64 kd)/\W.cell? ⟨wr.heap.size,0,none⟩=some (.int .i64 y.key)/\W.cell? ⟨wr.heap.size,1,none⟩=some (.int .i64 y.is.c)/\W.cell? ⟨wr.heap.size,2,none⟩=some (.int .i64 y.is.s)/\W.cell? ⟨wr.heap.size,3,none⟩=some (.int .i64 y.is.mi)/\W.cell? ⟨wr.heap.size,4,none⟩=some (.int .i64 y.is.ma)/\W.cell? ⟨wr.heap.size,5,none⟩=some (.int .i64 y.is.t)/\W.cell? ⟨wr.heap.size,6,none⟩=some (.int .i64 y.is.l)) cV cV ⟨q3,WL,s0,s1,s2,s3,s4,s5,s6⟩ ?_
         clear q3 WL s0 s1 s2 s3 s4 s5 s6
         (simp only [bV,List.filterMap_cons,List.filterMap_nil,List.getElem?_cons_zero,List.getElem?_cons_succ,Option.map_some])
         (repeat first|refine bg ?_|refine aZ ?_)
         refine bq rfl (fun K hK=>?_);go_simp
         (with_reducible refine PZ.out.mono ?_);rintro e w11 ⟨rfl,agi⟩
         obtain⟨UH,Tv,p1,p2⟩:=agi;have ML:=ag ((ads.below (wy:=mE.drew) (aW _ _).drew).step p1 p2);clear p1 p2 agK;go_simp;refine hK _ _ ?_;clear hK K
         (repeat first|refine bg ?_|refine aZ ?_)
         refine cC ?_;go_upto_if 117 with (fail);have HFK:=OV HF.2.1;go_cut [] (fun wx=>∃nv3 XA,Hid (Q5 M bb (dY bb (ah nb rs cap) rs) w wx w wr (ah (some (eb,cM)) LD WX) LD y nv3 XA t2))
         case first=>
          rcases HFK with ⟨LP,rfl⟩|⟨LP,yy,hyy,agN,agM,aiN,aiM,rfl⟩
          ·have hm2:¬0<=more:=ai;clear LP;go_wp2_with fail;go_meet;exact⟨UH,Tv,ML⟩
          ·obtain⟨j2,Tx,cap2,r2,agH,agp,hr2,hx2,agE,hown2⟩:=ML.bd.place hyy;obtain rfl:j2=j':=ai;subst agp;obtain⟨c0,-,-,c2,-,-,zP,-,YL,abO,amw⟩:=ML.bd.cells hr2;have FV:=hown2.keys;obtain⟨ks2,kc2,Yl⟩:=FV.isSlice;rw [Yl]at c2;have Nx:=ML.bd.off j2 r2 1;have jO:=ag fun(W:World) (hT:aA (fun b=>(r2.iQ 1).ownBlock=some b) w11 W)=>(⟨(hT.cell YL (fun h=>(Nx bb hr2 h).1 rfl) 0).trans c0,(hT.cell abO (fun h=>(Nx Tx hr2 h).2 rfl) _).trans c2⟩:W.cell? (bb,0)=some (ah Tx Tv cap2)/\W.cell? (Tx,j2*5+2)=some (ah ks2 yy.keys kc2));have MR:=ag fun(W:World) (hT:aA (fun b=>(r2.iQ 1).ownBlock=some b) w11 W)=>(fun o=>(hT.frozen abO (fun h=>(Nx Tx hr2 h).2 rfl) o).trans (zP o):∀o,W.frozen? ⟨Tx,o,none⟩=false);have DF:=ag (ML.bd.insert (W5:=(w11.alloc (.cells #[af key] 3)).drew) (f:=1) (i:=i) (vb:=w11.heap.size) (key:=key) (x':={ yy with keys:=yy.keys.take i++key::yy.keys.drop i }) hr2 hx2 (.inl rfl) FV agN ai (aj) (au _ _ rfl) aO rfl (UN yy _) rfl rfl (o:=j2*5+2) rfl);rw [show r2.iQ 1=ah ks2 yy.keys kc2 from Yl]at DF jO MR;have jh:=fun w'=>dU (ab:=Tx) (aR:=0) (n:=Tv.length) (cap:=cap2) (show (j2:Int)=((j2:Nat):Int) by rfl) agE w';simp only [iR]at jh;have HYY:=ag hyy;clear c0 c2 zP FV Yl Nx hr2 hx2 hown2 hyy agH;go_upto_region 30 with (fail);refine bN [(0,1),(1,1),(2,1),(3,1),(4,0),(5,1),(6,1),(7,1),(8,1),(9,1),(10,0),(11,1),(12,1),(13,1),(14,0),(15,1),(16,1),(17,2),(18,2),(19,1),(20,1),(21,3)] 21
            (fun W=>W.cell? (bb,0)=some (ah Tx Tv cap2)/\W.cell? (Tx,j2*5+2)=some (ah ks2 yy.keys kc2)) cV cV (jO _ (aA.refl _ _).drew) ?_
           (simp only [bV,List.filterMap_cons,List.filterMap_nil,List.getElem?_cons_zero,List.getElem?_cons_succ,Option.map_some])
           (repeat first|refine bg ?_|refine aZ ?_)
           refine aP rfl (fun K hK=>?_);go_simp;refine hK _ _ (jO _ ((aA.refl _ _).alloc _).drew) ?_;clear hK K;refine aP rfl (fun K hK=>?_);go_simp
           (with_reducible refine DF.out.mono ?_);rintro e w12 ⟨s12,n12,c12,rfl,Va,acp,abF⟩
           go_simp;refine hK _ _ (jO _ Va) ?_;clear hK K;have hfz:=MR _ Va (j2*5+2);have hc4:=(jO _ Va).2;have GA:=ag (ML.step acp abF);clear Va acp abF jO MR
           (repeat first|refine bg ?_|refine aZ ?_)
           refine bq rfl (fun K hK=>?_);go_simp;refine hK _ _ ?_;clear hK K;refine cC ?_;clear hfz hc4 jh DF;generalize w12.setCell (Tx,j2*5+2) (ah s12 n12 c12)=WA at GA ⊢;generalize Tv.set j2 (r2.kR 1 (ah s12 n12 c12))=XA at GA;generalize ah Tx Tv cap2=nv3 at GA;obtain⟨y3,Wp⟩:=cd ({ yy with keys:=yy.keys.take i++key::yy.keys.drop i });have hk3:y3.kids=yy.kids:=(by rw [Wp]);have S8:=ag (show ∀D,dz t1 j2 { yy with keys:=yy.keys.take i++key::yy.keys.drop i,kids:=D }=dz (dz t1 j2 y3) j2 { y3 with kids:=D } from fun D=>by rw [Ol,Wp]);rw [<-Wp]at GA;have abp:(dz t1 j2 y3).dm j2=some y3:=xu HYY;clear Wp;obtain⟨j3,Q6,SI,r3,Yq,Yc,hr3,hx3,Yp,yq⟩:=GA.bd.place abp;obtain rfl:j3=j2:=ai;subst Yc;obtain⟨c0,-,-,-,c3,-,zP,-,ah9,abN,amv⟩:=GA.bd.cells hr3;have X7:=yq.kids;obtain⟨ds3,dc3,Pm⟩:=X7.isSlice;rw [Pm]at c3;have Nw:=GA.bd.off j3 r3 2;have jO:=ag fun(W:World) (hT:aA (fun b=>(r3.iQ 2).ownBlock=some b) WA W)=>(⟨(hT.cell ah9 (fun h=>(Nw bb hr3 h).1 rfl) 0).trans c0,(hT.cell abN (fun h=>(Nw Q6 hr3 h).2 rfl) _).trans c3⟩:W.cell? (bb,0)=some (ah Q6 XA SI)/\W.cell? (Q6,j3*5+3)=some (ah ds3 y3.kids dc3));have MR:=ag fun(W:World) (hT:aA (fun b=>(r3.iQ 2).ownBlock=some b) WA W)=>(fun o=>(hT.frozen abN (fun h=>(Nw Q6 hr3 h).2 rfl) o).trans (zP o):∀o,W.frozen? ⟨Q6,o,none⟩=false);have DF:=ag (GA.bd.insert (W5:=(WA.alloc (.cells #[af more] 3)).drew) (f:=2) (i:=i+1) (vb:=WA.heap.size) (key:=more) (x':={ y3 with kids:=y3.kids.take (i+1)++more::y3.kids.drop (i+1) }) hr3 hx3 (.inr rfl) X7 (by rw [hk3];exact agM) (by rw [hk3];omega) (aj) (au _ _ rfl) aO rfl (UM y3 _) rfl rfl (o:=j3*5+3) rfl);rw [show r3.iQ 2=ah ds3 y3.kids dc3 from Pm]at DF jO MR;have amd:i<=20:=ai;rw [show ((i+1:Nat):Int)=IntKind.i64.wrap ((i:Int)+1)from by rw [bI _ ai];omega]at DF;have jh:=fun w'=>dU (ab:=Q6) (aR:=0) (n:=XA.length) (cap:=SI) (show (j3:Int)=((j3:Nat):Int) by rfl) Yp w';simp only [iR]at jh;have Ug:=ag hk3;clear c0 c3 zP X7 Pm Nw hr3 hx3 yq abp Yq hk3;go_upto_region 31 with (fail);refine bN [(0,1),(1,1),(2,1),(3,1),(4,0),(5,1),(6,1),(7,1),(8,1),(9,1),(10,0),(11,1),(12,1),(13,1),(14,0),(15,1),(16,1),(17,1),(18,2),(19,2),(20,1),(21,1),(22,3)] 22
            (fun W=>W.cell? (bb,0)=some (ah Q6 XA SI)/\W.cell? (Q6,j3*5+3)=some (ah ds3 y3.kids dc3)) cV cV (jO _ (aA.refl _ _).drew) ?_
           (simp only [bV,List.filterMap_cons,List.filterMap_nil,List.getElem?_cons_zero,List.getElem?_cons_succ,Option.map_some])
           (repeat first|refine bg ?_|refine aZ ?_)
           refine aP rfl (fun K hK=>?_);go_simp;refine hK _ _ (jO _ ((aA.refl _ _).alloc _).drew) ?_;clear hK K;refine aP rfl (fun K hK=>?_);go_simp
           (with_reducible refine DF.out.mono ?_);rintro e w13 ⟨s13,n13,c13,rfl,U9,aco,abE⟩
           go_simp;refine hK _ _ (jO _ U9) ?_;clear hK K;have hfz:=MR _ U9 (j3*5+3);have hc4:=(jO _ U9).2;have ZC:=ag (GA.step aco abE);rw [Ug,<-S8]at ZC;clear U9 aco abE jO MR
           (repeat first|refine bg ?_|refine aZ ?_)
           refine bq rfl (fun K hK=>?_);go_simp;refine hK _ _ ?_;clear hK K;refine cC ?_;clear hfz hc4 jh DF;generalize w13.setCell (Q6,j3*5+3) (ah s13 n13 c13)=WB at ZC ⊢;go_wp2_with fail;go_meet;exact⟨_,_,ZC⟩
         case rest=>
          obtain⟨nv3,XA,Kw⟩:=hcut;clear ML ads HQ HKX zb HRZ HI1 PZ HFK;obtain⟨-,-,hz2,hgo⟩:=HF.out;obtain⟨j3,Q6,SI,r3,Yq,Yc,hr3,hx3,Yp,yq⟩:=Kw.out.bd.place hz2;obtain rfl:j3=j':=ai;subst Yc;obtain⟨c0,-,-,-,c3,-,-,-,-,-,-⟩:=Kw.out.bd.cells hr3;have cb:wc.cell? (bb,2)=some (af 0):=(by simp [World.cell?,Kw.out.bd.box]);obtain⟨ds3,dc3,Pm⟩:=yq.kids.isSlice;rw [Pm]at c3;have ck:wc.cell? (wr,0)=some (af y.key):=(by simp [World.cell?,Kw.out.ent]);have jh:=fun w'=>dU (ab:=Q6) (aR:=0) (n:=XA.length) (cap:=SI) (show (j3:Int)=((j3:Nat):Int) by rfl) Yp w';simp only [iR]at jh;have Xo:=ag hgo;clear hz2 hgo hr3 hx3 yq Pm Yq;rcases Xo.out with ⟨h4,hd⟩|⟨h4,hd⟩
          ·have ZB:=ag (Kw.out.r4 hd);clear hd;go_wp2_with fail;go_roundg (LD-(k+1))
           case measure=>omega
           case rel=>exact⟨k+1,ai,rfl,by go_num,ZB⟩
          ·have TU:=ag (QH Kw.out.bd Kw.out.own Kw.out.off acR hd);clear hd;go_wp2_with (go_at_call 128;(with_reducible refine TU.out.mono ?_);rintro e w14 ⟨rfl,agh⟩);refine bW (results_none rfl _ _ _) rfl ?_;obtain⟨nv4,rs4,p1,p2⟩:=agh;exact⟨rfl,nv4,rs4,p1,Kw.out.stp.trans p2⟩
        ·obtain⟨nz,rs',tk,a0,a1,a2,a3,a4,hB,hS,-,-,-,-,-,hD⟩:=HR.out;rw [zX ai]at hD;have HV:=ag (show mZ M bb (dY bb (ah nb rs cap) rs) w t' wr from ⟨_,_,(dh hD)▸hB,hS⟩);clear hB hS hD HR;go_wp2
         go_end0
         exact⟨rfl,HV⟩
theorem Y7 {f:Nat} (hput:VH f):MW f:=fun h hF=>Pv hput h hF
theorem Ng:∀f,VH f
 |0=>fun _ hF=>by cases hF
 |f+1=>QJ (Y7 (Ng f))
end Go.Proofs.YtmljjfhgciaceaaGreatDoor
