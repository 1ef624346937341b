/- Texts of mine that come as one: Bd BdP. -/
import Derived.Test.YtmljjfhgciaceaaDoorHd
import Derived.Test.YtmljjfhgciaceaaDoorMerged
import Derived.Test.YtmljjfhgciaceaaDoorBK
import Derived.Test.YtmljjfhgciaceaaDoorPU
namespace Go.Proofs.YtmljjfhgciaceaaDoor
open Go.RowKit
section
variable {rs:List Raw} {us:List Value} {f M B bb:Nat} {F F':Nat->Prop} {x:Nd} {r:Raw} {t:Tr} {e:TypeId} {nv:Value} {w w':World}
theorem bZ {size n:Nat} {v:Value} (h:w.ownsRow B e size v n us) (hb:∀g,v.ownBlock=some g->w'.heap[g]?=w.heap[g]?):w'.ownsRow B e size v n us:=by
 obtain⟨hl,⟨rfl,h0⟩|⟨g,cap,cur,rfl,hB,hg,h1,h2,h3,h4⟩⟩:=h
 ·exact⟨hl, .inl ⟨rfl,h0⟩⟩
 ·exact⟨hl, .inr ⟨g,cap,cur,rfl,hB,(hb g rfl).trans hg,h1,h2,h3,h4⟩⟩
theorem cM {C size n:Nat} {v:Value} (h:w.ownsRow B e size v n us) (hC:C<=B):w.ownsRow C e size v n us:=by
 obtain⟨hl,⟨rfl,h0⟩|⟨g,cap,cur,rfl,hB,hg,h1,h2,h3,h4⟩⟩:=h
 ·exact⟨hl, .inl ⟨rfl,h0⟩⟩
 ·exact⟨hl, .inr ⟨g,cap,cur,rfl,af,hg,h1,h2,h3,h4⟩⟩
def fTy:Nat->TypeId|0=>96|3=>96|_=>3
def fK:Nat->Nat|0=>7|3=>7|_=>1
def Raw.lR (r:Raw):Nat->Value|0=>r.ev|1=>r.kv|2=>r.dv|3=>r.bv|_=> .slice none 0 0
def Raw.sx (r:Raw) (f:Nat) (v:Value):Raw:=match f with|0=>{ r with ev:=v }|1=>{ r with kv:=v }|2=>{ r with dv:=v }|3=>{ r with bv:=v }|_=>r
def Nd.fN (x:Nd):Nat->Nat|0=>x.aF.length|1=>x.keys.length|2=>x.kids.length|3=>x.buf.length|_=>0
def Nd.fC (x:Nd):Nat->List Value|0=>x.aF.flatMap aZ|1=>x.keys.flatMap bX|2=>x.kids.flatMap bX|3=>x.buf.flatMap aZ|_=>[]
theorem vA (h:f<4):f=0\/f=1\/f=2\/f=3:=af
theorem Raw.vN (r:Raw) (hf:f<4) (v:Value):(r.sx f v).lR f=v:=by rcases vA hf with rfl|rfl|rfl|rfl <;> rfl
theorem Raw.Co (r:Raw) {g:Nat} (hf:f<4) (v:Value) (h:g≠f):(r.sx f v).lR g=r.lR g:=by
 rcases vA hf with rfl|rfl|rfl|rfl <;> (rcases lH g 4 with hg|hg) <;> first
  |(rcases vA hg with rfl|rfl|rfl|rfl <;> first|rfl|exact absurd rfl h)
  |(obtain⟨k,rfl⟩:∃k,g=k+4:=⟨g-4,af⟩;rfl)
theorem Raw.Jy (r:Raw) (f:Nat) (v:Value):(r.sx f v).leaf=r.leaf:=by unfold Raw.sx;split <;> rfl
theorem Raw.ig (r:Raw) (hf:4<=f):r.lR f = .slice none 0 0:=by obtain⟨k,rfl⟩:∃k,f=k+4:=⟨f-4,af⟩;rfl
structure gV (M:Nat) (w:World) (r:Raw) (x:Nd):Prop where
 leaf:r.leaf=x.leaf
 row:∀f,w.ownsRow M (fTy f) (fK f) (r.lR f) (x.fN f) (x.fC f)
theorem gV.block (h:gV M w r x) (hb:∀f g,(r.lR f).ownBlock=some g->w'.heap[g]?=w.heap[g]?):gV M w' r x:=⟨h.leaf,fun f=>bZ (h.row f) (hb f)⟩
theorem gV.aF (h:gV M w r x):au M w r.ev x.aF:=⟨h.row 0⟩
theorem gV.buf (h:gV M w r x):au M w r.bv x.buf:=⟨h.row 3⟩
theorem gV.of (hl:r.leaf=x.leaf) (h0:w.ownsRow M 96 7 r.ev x.aF.length (x.aF.flatMap aZ)) (h1:w.ownsRow M 3 1 r.kv x.keys.length (x.keys.flatMap bX))
  (h2:w.ownsRow M 3 1 r.dv x.kids.length (x.kids.flatMap bX)) (h3:w.ownsRow M 96 7 r.bv x.buf.length (x.buf.flatMap aZ)):gV M w r x:=by
 refine⟨hl,fun f=>?_⟩
 rcases lH f 4 with hf|hf
 ·rcases vA hf with rfl|rfl|rfl|rfl
  ·exact h0
  ·exact h1
  ·exact h2
  ·exact h3
 ·obtain⟨k,rfl⟩:∃k,f=k+4:=⟨f-4,af⟩
  exact World.ownsRow_nil _ _ _ _
structure Bd (M:Nat) (w:World) (bb:Nat) (nv:Value) (rs:List Raw) (t:Tr):Prop where
 low:M<=bb
 box:w.heap[bb]?=some (.cells #[nv, .int .i64 t.root, .int .i64 0] 128)
 row:w.ownsRow M 119 5 nv rs.length (rs.flatMap cI)
 len:rs.length=t.nodes.length
 Cu:∀(i:Nat) r x,rs[i]?=some r->t.nodes[i]?=some x->gV M w r x
 apart:∀(i j:Nat) r s f g b,rs[i]?=some r->rs[j]?=some s->(r.lR f).ownBlock=some b->(s.lR g).ownBlock=some b->i=j/\f=g
 o8:nv.ownBlock≠some bb
 off:∀(i:Nat) r f b,rs[i]?=some r->(r.lR f).ownBlock=some b->b≠bb/\nv.ownBlock≠some b
def dA (bb:Nat) (nv:Value) (rs:List Raw) (b:Nat):Prop:=b=bb\/nv.ownBlock=some b\/∃(i:Nat) (r:Raw) (f:Nat),rs[i]?=some r/\(r.lR f).ownBlock=some b
structure nG (F F':Nat->Prop) (w w':World):Prop where
 turn:aa0 F w w'
 new:∀b,F' b->F b\/w.heap.size<=b
theorem nG.refl (F:Nat->Prop) (w:World):nG F F w w:=⟨aa0.refl _ _,fun _ h=> .inl h⟩
theorem nG.trans {F'':Nat->Prop} {a b c:World} (h:nG F F' a b) (k:nG F' F'' b c):nG F F'' a c:=
 ⟨h.turn.trans' k.turn (fun i hi hf=>(h.new i hf).resolve_right af),fun x hx=>(k.new x hx).elim (fun hf=>h.new x hf) fun hf=> .inr (by have:=h.turn.size;omega)⟩
theorem nG.of (h:Below B w w') (hB:w.heap.size<=B):nG F F w w':=⟨aa0.of h hB,fun _ h=> .inl h⟩
theorem nG.drew (h:nG F F' w w'):nG F F' w w'.drew:=⟨h.turn.drew,h.new⟩
theorem nG.drewN (h:nG F F' w w') (n:Nat):nG F F' w (w'.drewN n):=⟨h.turn.drewN n,h.new⟩
theorem nG.stay (h:nG F F' w w') {b:Nat} (hb:b<w.heap.size) (hF:¬F b):w'.heap[b]?=w.heap[b]?/\¬F' b:=
 ⟨h.turn.block b hb hF,fun hf=>(h.new b hf).elim hF af⟩
theorem Bd.lt (h:Bd M w bb nv rs t):∀b,dA bb nv rs b->M<=b/\b<w.heap.size:=by
 rintro b (rfl|hb|⟨i,r,f,hr,hb⟩)
 ·exact⟨h.low,(eI.1 h.box).1⟩
 ·exact h.row.lt b hb
 ·have hi:=(gJ.1 hr).1
  rw [h.len]at hi
  exact((h.Cu i r _ hr (nL hi)).row f).lt b hb
theorem Bd.world (h:Bd M w bb nv rs t) (hb:∀b,dA bb nv rs b->w'.heap[b]?=w.heap[b]?):Bd M w' bb nv rs t:=
 ⟨h.low,(hb bb (.inl rfl)).trans h.box,bZ h.row fun g hg=>hb g (.inr (.inl hg)),h.len,
  fun i r x hr hx=>(h.Cu i r x hr hx).block fun f g hg=>hb g (.inr (.inr ⟨i,r,f,hr,hg⟩)),h.apart,h.o8,h.off⟩
theorem Bd.below (h:Bd M w bb nv rs t) (hb:Below B w w') (hB:w.heap.size<=B):Bd M w' bb nv rs t:=h.world fun b hf=>hb.block b (by have:=(h.lt b hf).2;omega)
theorem Bd.turn {X:Nat->Prop} (h:Bd M w bb nv rs t) (hb:aa0 X w w') (hX:∀b,dA bb nv rs b->¬X b):Bd M w' bb nv rs t:=h.world fun b hf=>hb.block b (h.lt b hf).2 (hX b hf)
theorem Bd.drew (h:Bd M w bb nv rs t):Bd M w.drew bb nv rs t:=h.world fun _ _=>rfl
theorem Bd.alloc (h:Bd M w bb nv rs t) (o:Obj):Bd M (w.alloc o) bb nv rs t:=h.below ((aI _ w).alloc aH o) aH
theorem EJ {v:Value} {f:Nat} (hf:f<4):∀{rs:List Raw} {n:Nat} {r:Raw},rs[n]?=some r->(rs.set n (r.sx f v)).flatMap cI=(rs.flatMap cI).set (n*5+(f+1)) v
 |[],_,_,h=>by simp at h
 |a::rs,0,r,h=>by
  simp only [List.getElem?_cons_zero,iw]at h
  subst h
  rcases vA hf with rfl|rfl|rfl|rfl <;> rfl
 |a::rs,n+1,r,h=>by
  have ih:=EJ (v:=v) hf (rs:=rs) (n:=n) (r:=r) (by simpa using h)
  rw [List.set_cons_succ,gQ,ih,gQ,show (n+1)*5+(f+1)=n*5+(f+1)+5 from by omega]
  rfl
theorem Bd.field {w1:World} {nb cap n:Nat} {v':Value} {x':Nd} (h:Bd M w bb nv rs t) (U4:nv = .slice (some ⟨nb,0,none⟩) rs.length cap) (hr:rs[n]?=some r) (hx:t.nodes[n]?=some x) (hf:f<4)
  (hT:aa0 (fun b=>(r.lR f).ownBlock=some b) w w1) (hown:w1.ownsRow M (fTy f) (fK f) v' (x'.fN f) (x'.fC f)) (hv:∀b,v'.ownBlock=some b->(r.lR f).ownBlock=some b\/w.heap.size<=b)
  (hl:x'.leaf=x.leaf) (ho:∀g,g≠f->x'.fN g=x.fN g/\x'.fC g=x.fC g) {o:Nat} (hoff:o=n*5+(f+1)) :
  Bd M (w1.setCell ⟨nb,o,none⟩ v') bb nv (rs.set n (r.sx f v')) (cG t n x')/\nG (dA bb nv rs) (dA bb nv (rs.set n (r.sx f v'))) w (w1.setCell ⟨nb,o,none⟩ v'):=by
 subst hoff
 have hnb:nv.ownBlock=some nb:=by rw [U4];rfl
 have hnl:=(h.lt nb (.inr (.inl hnb))).2
 have hbl:=(h.lt bb (.inl rfl)).2
 have hn:=(gJ.1 hr).1
 have vC:bb≠nb:=fun e=>h.o8 (by rw [e];exact hnb)
 -- blocks that neither step turns
 have keep:∀b,b<w.heap.size->(r.lR f).ownBlock≠some b->b≠nb->(w1.setCell ⟨nb,n*5+(f+1),none⟩ v').heap[b]?=w.heap[b]?:=fun b hb h1 h2=>
  (heap_setCell_other w1 ⟨nb,_,none⟩ b v' h2).trans (hT.block b hb h1)
 have vb:∀b,v'.ownBlock=some b->b≠bb/\b≠nb:=fun b hb=>by
  rcases hv b hb with h1|h1
  ·have:=h.off n r f b hr h1
   exact⟨this.1,fun e=>this.2 (by rw [e];exact hnb)⟩
  ·exact⟨fun e=>af,fun e=>af⟩
 have ey:∀i s,(rs.set n (r.sx f v'))[i]?=some s->(i=n/\s=r.sx f v')\/(i≠n/\rs[i]?=some s):=fun i s hs=>by
  by_cases hi:i=n
  ·subst hi
   rw [List.getElem?_set_self hn]at hs
   exact .inl ⟨rfl,(cY hs).symm⟩
  ·rw [Bc (Ne.symm hi)]at hs;exact .inr ⟨hi,hs⟩
 -- where a block of the new rows comes from
 have src:∀i s g b,(rs.set n (r.sx f v'))[i]?=some s->(s.lR g).ownBlock=some b->(i=n/\g=f/\v'.ownBlock=some b)\/(¬(i=n/\g=f)/\∃s',rs[i]?=some s'/\(s'.lR g).ownBlock=some b):=fun i s g b hs hb=>by
  rcases ey i s hs with ⟨rfl,rfl⟩|⟨hi,hs⟩
  ·by_cases hg:g=f
   ·subst hg;rw [Raw.vN _ hf]at hb;exact .inl ⟨rfl,rfl,hb⟩
   ·rw [Raw.Co _ hf _ hg]at hb;exact .inr ⟨fun h=>hg h.2,r,hr,hb⟩
  ·exact .inr ⟨fun h=>hi h.1,s,hs,hb⟩
 have old:∀i s g b,¬(i=n/\g=f)->rs[i]?=some s->(s.lR g).ownBlock=some b->b<w.heap.size/\(r.lR f).ownBlock≠some b/\b≠nb:=fun i s g b hne hs hb=>
  ⟨(h.lt b (.inr (.inr ⟨i,s,g,hs,hb⟩))).2,fun e=>hne (h.apart i n s r g f b hs hr hb e),fun e=>(h.off i s g b hs hb).2 (by rw [e];exact hnb)⟩
 refine⟨⟨h.low,?_,?_,?_,?_,?_,h.o8,?_⟩,⟨?_,?_⟩⟩
 ·exact(keep bb hbl (fun e=>(h.off n r f bb hr e).1 rfl) vC).trans h.box
 ·have h1:w1.ownsRow M 119 5 nv rs.length (rs.flatMap cI):=bZ h.row fun g hg=>hT.block g (h.row.lt g hg).2 (fun e=>(h.off n r f g hr e).2 hg)
  rw [EJ hf hr,tQ]
  rw [U4]at h1 ⊢
  exact(World.ownsRow.stored h1 _ _).1
 ·rw [tQ,h.len];exact(iF t n x').symm
 ·intro i s y hs hy
  have hyx:y=if i=n then x' else y:=by
   by_cases hi:i=n
   ·subst hi
    have:(cG t (i:Int) x').nodes[i]?=some x':=by show (t.nodes.set _ x')[i]?=_;rw [Int.toNat_natCast];exact List.getElem?_set_self (gJ.1 hx).1
    rw [this]at hy
    rw [ar rfl];exact(cY hy).symm
   ·rw [ai hi]
  by_cases hi:i=n
  ·rw [ar hi]at hyx
   subst hyx
   rcases ey i s hs with ⟨_,rfl⟩|⟨hi',_⟩
   ·refine⟨by rw [Raw.Jy,hl];exact(h.Cu n r x hr hx).leaf,fun g=>?_⟩
    by_cases hg:g=f
    ·subst hg
     rw [Raw.vN _ hf]
     exact bZ hown fun b hb=>heap_setCell_other w1 ⟨nb,_,none⟩ b v' (vb b hb).2
    ·rw [Raw.Co _ hf _ hg,(ho g hg).1,(ho g hg).2]
     exact bZ ((h.Cu n r x hr hx).row g) fun b hb=>by
      obtain⟨k1,k2,k3⟩:=old n r g b (fun hh=>hg hh.2) hr hb
      exact keep b k1 k2 k3
   ·exact absurd hi hi'
  ·rcases ey i s hs with ⟨hi',_⟩|⟨_,hs⟩
   ·exact absurd hi' hi
   ·have hy':t.nodes[i]?=some y:=by
     have:(cG t (n:Int) x').nodes[i]?=t.nodes[i]?:=by simp [cG,Bc (Ne.symm hi)]
     rw [<-this];exact hy
    exact(h.Cu i s y hs hy').block fun g b hb=>by
     obtain⟨k1,k2,k3⟩:=old i s g b (fun hh=>hi hh.1) hs hb
     exact keep b k1 k2 k3
 ·intro i j s u g k b hs hu hb hb'
  rcases src i s g b hs hb with ⟨rfl,rfl,e1⟩|⟨n1,s',hs',e1⟩
  ·rcases src j u k b hu hb' with ⟨rfl,rfl,e2⟩|⟨n2,u',hu',e2⟩
   ·exact⟨rfl,rfl⟩
   ·obtain⟨k1,k2,k3⟩:=old j u' k b n2 hu' e2
    rcases hv b e1 with h1|h1
    ·exact absurd h1 k2
    ·omega
  ·rcases src j u k b hu hb' with ⟨rfl,rfl,e2⟩|⟨n2,u',hu',e2⟩
   ·obtain⟨k1,k2,k3⟩:=old i s' g b n1 hs' e1
    rcases hv b e2 with h1|h1
    ·exact absurd h1 k2
    ·omega
   ·exact h.apart i j s' u' g k b hs' hu' e1 e2
 ·intro i s g b hs hb
  rcases src i s g b hs hb with ⟨rfl,rfl,e1⟩|⟨n1,s',hs',e1⟩
  ·have:=vb b e1
   exact⟨this.1,fun e=>this.2 (cY (e.symm.trans hnb))⟩
  ·exact h.off i s' g b hs' e1
 ·exact aa0.setCell (hT.mono fun b _ hb=> .inr (.inr ⟨n,r,f,hr,hb⟩)) (.inl (.inr (.inl hnb))) v'
 ·rintro b (rfl|hb|⟨i,s,g,hs,hb⟩)
  ·exact .inl (.inl rfl)
  ·exact .inl (.inr (.inl hb))
  ·rcases src i s g b hs hb with ⟨rfl,rfl,e1⟩|⟨n1,s',hs',e1⟩
   ·rcases hv b e1 with h1|h1
    ·exact .inl (.inr (.inr ⟨_,r,_,hr,h1⟩))
    ·exact .inr h1
   ·exact .inl (.inr (.inr ⟨i,s',g,hs',e1⟩))
end
section
variable {rs:List Raw} {b M bb nb cap:Nat} {x:Nd} {r:Raw} {t:Tr} {nv:Value} {w w1:World}
theorem zM {a0 a1 a2 v:Value} {T:TypeId} {fr:Nat×Nat} (h:w.heap[b]?=some (.cells #[a0,a1,a2] T fr)):(w.setCell ⟨b,0,none⟩ v).heap[b]?=some (.cells #[v,a1,a2] T fr):=by
 have h:=heap_setCell_same (off:=0) (v:=v) h
 simpa using h
structure Fu (M H:Nat) (w:World) (r:Raw) (x:Nd):Prop where
 own:gV M w r x
 new:∀f b,(r.lR f).ownBlock=some b->H<=b/\b<w.heap.size
 apart:∀f g b,(r.lR f).ownBlock=some b->(r.lR g).ownBlock=some b->f=g
theorem Bd.push {kY:Value} (h:Bd M w bb nv rs t) (hT:aa0 (fun b=>nv.ownBlock=some b) w w1)
  (hrow:w1.ownsRow M 119 5 kY (rs.length+1) (rs.flatMap cI++cI r)) (hv:∀b,kY.ownBlock=some b->nv.ownBlock=some b\/w.heap.size<=b)
  (hF:Fu M w.heap.size w1 r x) (hd:∀f b,(r.lR f).ownBlock=some b->kY.ownBlock≠some b) :
  Bd M (w1.setCell ⟨bb,0,none⟩ kY) bb kY (rs++[r]) (jq t x)/\nG (dA bb nv rs) (dA bb kY (rs++[r])) w (w1.setCell ⟨bb,0,none⟩ kY):=by
 have hbl:=(h.lt bb (.inl rfl)).2
 have keep:∀b,b<w.heap.size->nv.ownBlock≠some b->b≠bb->(w1.setCell ⟨bb,0,none⟩ kY).heap[b]?=w.heap[b]?:=fun b hb h1 h2=>(heap_setCell_other w1 ⟨bb,_,none⟩ b kY h2).trans (hT.block b hb h1)
 have vb:kY.ownBlock≠some bb:=fun e=>by
  rcases hv bb e with h1|h1
  ·exact h.o8 h1
  ·omega
 have hnew:∀f b,(r.lR f).ownBlock=some b->b≠bb/\w.heap.size<=b:=fun f b hb=>by
  have:=hF.new f b hb
  exact⟨fun e=>af,this.1⟩
 have ey:∀i s,(rs++[r])[i]?=some s->(i=rs.length/\s=r)\/(i<rs.length/\rs[i]?=some s):=fun i s hs=>by
  rcases lH i rs.length with hi|hi
  ·rw [Ao hi]at hs;exact .inr ⟨hi,hs⟩
  ·rw [List.getElem?_append_right hi]at hs
   have hlt:=(gJ.1 hs).1
   simp only [List.length_singleton]at hlt
   have:i=rs.length:=af
   subst this
   simp at hs;exact .inl ⟨rfl,hs.symm⟩
 have old:∀(i:Nat) s f b,rs[i]?=some s->(s.lR f).ownBlock=some b->b<w.heap.size/\nv.ownBlock≠some b/\b≠bb:=fun i s f b hs hb=>
  ⟨(h.lt b (.inr (.inr ⟨i,s,f,hs,hb⟩))).2,(h.off i s f b hs hb).2,(h.off i s f b hs hb).1⟩
 refine⟨⟨h.low,?_,?_,?_,?_,?_,vb,?_⟩,⟨?_,?_⟩⟩
 ·exact zM ((hT.block bb hbl h.o8).trans h.box)
 ·rw [dO,tR]
  refine bZ (w:=w1) (by simpa using hrow) fun b hb=>heap_setCell_other w1 ⟨bb,_,none⟩ b kY (fun e=>vb (by rw [e]at hb;exact hb))
 ·rw [dO,IV,h.len];rfl
 ·intro i s y hs hy
  rcases ey i s hs with ⟨rfl,rfl⟩|⟨hi,hs⟩
  ·have:(jq t x).nodes[rs.length]?=some x:=by rw [h.len];simp [jq]
   obtain rfl:=cY (this.symm.trans hy)
   exact hF.own.block fun f b hb=>heap_setCell_other w1 ⟨bb,_,none⟩ b kY (hnew f b hb).1
  ·have hy':t.nodes[i]?=some y:=by
    rw [<-hy];exact(Ao (by rw [<-h.len];exact hi)).symm
   exact(h.Cu i s y hs hy').block fun f b hb=>by
    obtain⟨k1,k2,k3⟩:=old i s f b hs hb
    exact keep b k1 k2 k3
 ·intro i j s u f g b hs hu hb hb'
  rcases ey i s hs with ⟨rfl,rfl⟩|⟨hi,hs2⟩
  ·rcases ey j u hu with ⟨rfl,rfl⟩|⟨hj,hu2⟩
   ·exact⟨rfl,hF.apart f g b hb hb'⟩
   ·have:=(old j u g b hu2 hb').1;have:=(hnew f b hb).2;omega
  ·rcases ey j u hu with ⟨rfl,rfl⟩|⟨hj,hu2⟩
   ·have:=(old i s f b hs2 hb).1;have:=(hnew g b hb').2;omega
   ·exact h.apart i j s u f g b hs2 hu2 hb hb'
 ·intro i s f b hs hb
  rcases ey i s hs with ⟨rfl,rfl⟩|⟨hi,hs⟩
  ·exact⟨(hnew f b hb).1,hd f b hb⟩
  ·obtain⟨k1,k2,k3⟩:=old i s f b hs hb
   exact⟨k3,fun e=>(hv b e).elim k2 af⟩
 ·exact aa0.setCell (hT.mono fun b _ hb=> .inr (.inl hb)) (.inl (.inl rfl)) kY
 ·rintro b (rfl|hb|⟨i,s,f,hs,hb⟩)
  ·exact .inl (.inl rfl)
  ·exact(hv b hb).imp (fun h=> .inr (.inl h)) id
  ·rcases ey i s hs with ⟨rfl,rfl⟩|⟨hi,hs⟩
   ·exact .inr (hnew f b hb).2
   ·exact .inl (.inr (.inr ⟨i,s,f,hs,hb⟩))
theorem lF {g i:Nat} {v0 v1 v2 v3 v4:Value} (h:b≠g):(((((w.setCell ⟨g,i,none⟩ v0).setCell ⟨g,i+1,none⟩ v1).setCell ⟨g,i+2,none⟩ v2).setCell ⟨g,i+3,none⟩ v3).setCell ⟨g,i+4,none⟩ v4).heap[b]?=w.heap[b]?:=by
 rw [heap_setCell_other _ ⟨g,_,none⟩ b _ h,heap_setCell_other _ ⟨g,_,none⟩ b _ h,heap_setCell_other _ ⟨g,_,none⟩ b _ h,heap_setCell_other _ ⟨g,_,none⟩ b _ h,heap_setCell_other _ ⟨g,_,none⟩ b _ h]
theorem Bd.whole {n:Nat} (h:Bd M w bb nv rs t) (U4:nv = .slice (some ⟨nb,0,none⟩) rs.length cap) (hn:n<rs.length)
  (hT:ah w w1) (hF:Fu M w.heap.size w1 r x) :
  Bd M (((((w1.setCell ⟨nb,n*5,none⟩ (.bool r.leaf)).setCell ⟨nb,n*5+1,none⟩ r.ev).setCell ⟨nb,n*5+2,none⟩ r.kv).setCell ⟨nb,n*5+3,none⟩ r.dv).setCell ⟨nb,n*5+4,none⟩ r.bv) bb nv (rs.set n r) (cG t n x) /\
  nG (dA bb nv rs) (dA bb nv (rs.set n r)) w (((((w1.setCell ⟨nb,n*5,none⟩ (.bool r.leaf)).setCell ⟨nb,n*5+1,none⟩ r.ev).setCell ⟨nb,n*5+2,none⟩ r.kv).setCell ⟨nb,n*5+3,none⟩ r.dv).setCell ⟨nb,n*5+4,none⟩ r.bv):=by
 have hnb:nv.ownBlock=some nb:=by rw [U4];rfl
 have hnl:=(h.lt nb (.inr (.inl hnb))).2
 have hbl:=(h.lt bb (.inl rfl)).2
 have vC:bb≠nb:=fun e=>h.o8 (by rw [e];exact hnb)
 have keep:∀b,b<w.heap.size->b≠nb->(((((w1.setCell ⟨nb,n*5,none⟩ (.bool r.leaf)).setCell ⟨nb,n*5+1,none⟩ r.ev).setCell ⟨nb,n*5+2,none⟩ r.kv).setCell ⟨nb,n*5+3,none⟩ r.dv).setCell ⟨nb,n*5+4,none⟩ r.bv).heap[b]?=w.heap[b]?:=fun b hb h2=>(lF h2).trans (hT.block b hb)
 have hnew:∀f b,(r.lR f).ownBlock=some b->b≠bb/\b≠nb/\w.heap.size<=b:=fun f b hb=>by
  have:=hF.new f b hb
  exact⟨fun e=>af,fun e=>af,this.1⟩
 have ey:∀i s,(rs.set n r)[i]?=some s->(i=n/\s=r)\/(i≠n/\rs[i]?=some s):=fun i s hs=>by
  by_cases hi:i=n
  ·subst hi
   rw [List.getElem?_set_self hn]at hs
   exact .inl ⟨rfl,(cY hs).symm⟩
  ·rw [Bc (Ne.symm hi)]at hs;exact .inr ⟨hi,hs⟩
 have old:∀(i:Nat) s f b,rs[i]?=some s->(s.lR f).ownBlock=some b->b<w.heap.size/\b≠nb/\b≠bb:=fun i s f b hs hb=>
  ⟨(h.lt b (.inr (.inr ⟨i,s,f,hs,hb⟩))).2,fun e=>(h.off i s f b hs hb).2 (by rw [e];exact hnb),(h.off i s f b hs hb).1⟩
 refine⟨⟨h.low,?_,?_,?_,?_,?_,h.o8,?_⟩,⟨?_,?_⟩⟩
 ·exact(keep bb hbl vC).trans h.box
 ·have h1:w1.ownsRow M 119 5 nv rs.length (rs.flatMap cI):=bZ h.row fun g hg=>hT.block g (h.row.lt g hg).2
  rw [tQ]
  rw [U4]at h1 ⊢
  exact pM h1 hn rfl
 ·rw [tQ,h.len];exact(iF t n x).symm
 ·intro i s y hs hy
  rcases ey i s hs with ⟨rfl,rfl⟩|⟨hi,hs⟩
  ·have:(cG t (i:Int) x).nodes[i]?=some x:=by show (t.nodes.set _ x)[i]?=_;rw [Int.toNat_natCast];exact List.getElem?_set_self (by rw [<-h.len];exact hn)
   obtain rfl:=cY (this.symm.trans hy)
   exact hF.own.block fun f b hb=>lF (hnew f b hb).2.1
  ·have hy':t.nodes[i]?=some y:=by
    have:(cG t (n:Int) x).nodes[i]?=t.nodes[i]?:=by simp [cG,Bc (Ne.symm hi)]
    rw [<-this];exact hy
   exact(h.Cu i s y hs hy').block fun f b hb=>by
    obtain⟨k1,k2,k3⟩:=old i s f b hs hb
    exact keep b k1 k2
 ·intro i j s u f g b hs hu hb hb'
  rcases ey i s hs with ⟨rfl,rfl⟩|⟨hi,hs2⟩
  ·rcases ey j u hu with ⟨rfl,rfl⟩|⟨hj,hu2⟩
   ·exact⟨rfl,hF.apart f g b hb hb'⟩
   ·have:=(old j u g b hu2 hb').1;have:=(hnew f b hb).2.2;omega
  ·rcases ey j u hu with ⟨rfl,rfl⟩|⟨hj,hu2⟩
   ·have:=(old i s f b hs2 hb).1;have:=(hnew g b hb').2.2;omega
   ·exact h.apart i j s u f g b hs2 hu2 hb hb'
 ·intro i s f b hs hb
  rcases ey i s hs with ⟨rfl,rfl⟩|⟨hi,hs⟩
  ·exact⟨(hnew f b hb).1,fun e=>(hnew f b hb).2.1 (cY (e.symm.trans hnb))⟩
  ·exact h.off i s f b hs hb
 ·have hX:dA bb nv rs nb:= .inr (.inl hnb)
  exact aa0.setCell (aa0.setCell (aa0.setCell (aa0.setCell (aa0.setCell (aa0.of hT aH) (.inl hX) _) (.inl hX) _) (.inl hX) _) (.inl hX) _) (.inl hX) _
 ·rintro b (rfl|hb|⟨i,s,f,hs,hb⟩)
  ·exact .inl (.inl rfl)
  ·exact .inl (.inr (.inl hb))
  ·rcases ey i s hs with ⟨rfl,rfl⟩|⟨hi,hs⟩
   ·exact .inr (hnew f b hb).2.2
   ·exact .inl (.inr (.inr ⟨i,s,f,hs,hb⟩))
theorem Bd.place (h:Bd M w bb nv rs t) {n:Int} (hx:t.dh n=some x) :
  ∃(k nb cap:Nat) (r:Raw),n=(k:Int)/\nv = .slice (some ⟨nb,0,none⟩) rs.length cap/\rs[k]?=some r/\t.nodes[k]?=some x/\k<rs.length/\gV M w r x:=by
 unfold Tr.dh at hx
 split at hx
 ·rename_i h0
  have hlt:=(gJ.1 hx).1
  rw [<-h.len]at hlt
  obtain⟨hl,⟨rfl,h0'⟩|⟨g,cap,cur,hv,_⟩⟩:=h.row
  ·omega
  ·refine⟨n.toNat,g,cap,rs[n.toNat],af,hv,nL hlt,hx,hlt,h.Cu _ _ _ (nL hlt) hx⟩
 ·cases hx
theorem Bd.cells {k:Nat} (h:Bd M w bb (.slice (some ⟨nb,0,none⟩) rs.length cap) rs t) (hr:rs[k]?=some r) :
  w.cell? ⟨bb,0,none⟩=some (.slice (some ⟨nb,0,none⟩) rs.length cap)/\w.cell? ⟨nb,k*5,none⟩=some (.bool r.leaf)/\w.cell? ⟨nb,k*5+1,none⟩=some r.ev/\w.cell? ⟨nb,k*5+2,none⟩=some r.kv /\
  w.cell? ⟨nb,k*5+3,none⟩=some r.dv/\w.cell? ⟨nb,k*5+4,none⟩=some r.bv/\(∀o,w.frozen? ⟨nb,o,none⟩=false)/\(∀o,w.frozen? ⟨bb,o,none⟩=false)/\bb<w.heap.size/\nb<w.heap.size/\bb≠nb:=by
 obtain⟨hk,rfl⟩:=gJ.1 hr
 obtain⟨c0,c1,c2,c3,c4,cf⟩:=vQ h.row rfl hk
 exact⟨by simp [World.cell?,h.box],c0,c1,c2,c3,c4,cf,fun o=>by simp [World.frozen?,h.box],(h.lt bb (.inl rfl)).2,(h.lt nb (.inr (.inl rfl))).2,fun e=>h.o8 (by rw [e];rfl)⟩
theorem Bd.nodes (h:Bd M w bb nv rs t) (hs:rs.length<=1000000) (hn:∀x∈t.nodes,∀f,x.fN f<=1000000):bz w nv t.nodes:=by
 refine⟨rs,dK.owned gh h.row rfl af,h.len,fun i r x hr hx=>?_⟩
 have o:=h.Cu i r x hr hx
 have hm:=hn x (List.mem_of_getElem? hx)
 exact⟨o.leaf,dK.owned cX (o.row 0) rfl (by have:x.aF.length<=_:=hm 0;omega),dK.owned kG (o.row 1) rfl (by have:x.keys.length<=_:=hm 1;omega),
  dK.owned kG (o.row 2) rfl (by have:x.kids.length<=_:=hm 2;omega),dK.owned cX (o.row 3) rfl (by have:x.buf.length<=_:=hm 3;omega)⟩
end
end Go.Proofs.YtmljjfhgciaceaaDoor
