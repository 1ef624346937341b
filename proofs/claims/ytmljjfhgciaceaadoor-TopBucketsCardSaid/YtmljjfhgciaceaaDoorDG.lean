/- Texts of mine that come as one: Bd BdP. -/
import Derived.Test.YtmljjfhgciaceaaDoorHd
import Derived.Test.YtmljjfhgciaceaaDoorMerged
import Derived.Test.YtmljjfhgciaceaaDoorBK
import Derived.Test.YtmljjfhgciaceaaDoorPU
namespace Go.Proofs.YtmljjfhgciaceaaDoor
open Go.RowKit
section
variable {rs:List Raw} {us:List Value} {f M B bb:Nat} {F F':Nat->Prop} {x:Nd} {r:Raw} {t:Tr} {e:TypeId} {nv:Value} {w w':World}
theorem bX {size n:Nat} {v:Value} (h:w.ownsRow B e size v n us) (hb:∀g,v.ownBlock=some g->w'.heap[g]?=w.heap[g]?):w'.ownsRow B e size v n us:=by
 obtain⟨hl,⟨rfl,h0⟩|⟨g,cap,cur,rfl,hB,hg,h1,h2,h3,h4⟩⟩:=h
 ·exact⟨hl, .inl ⟨rfl,h0⟩⟩
 ·exact⟨hl, .inr ⟨g,cap,cur,rfl,hB,(hb g rfl).trans hg,h1,h2,h3,h4⟩⟩
theorem cP {C size n:Nat} {v:Value} (h:w.ownsRow B e size v n us) (hC:C<=B):w.ownsRow C e size v n us:=by
 obtain⟨hl,⟨rfl,h0⟩|⟨g,cap,cur,rfl,hB,hg,h1,h2,h3,h4⟩⟩:=h
 ·exact⟨hl, .inl ⟨rfl,h0⟩⟩
 ·exact⟨hl, .inr ⟨g,cap,cur,rfl,af,hg,h1,h2,h3,h4⟩⟩
def fTy:Nat->TypeId|0=>96|3=>96|_=>3
def fK:Nat->Nat|0=>7|3=>7|_=>1
def Raw.lS (r:Raw):Nat->Value|0=>r.ev|1=>r.kv|2=>r.dv|3=>r.bv|_=> .slice none 0 0
def Raw.sf (r:Raw) (f:Nat) (v:Value):Raw:=match f with|0=>{ r with ev:=v }|1=>{ r with kv:=v }|2=>{ r with dv:=v }|3=>{ r with bv:=v }|_=>r
def Nd.fN (x:Nd):Nat->Nat|0=>x.aF.length|1=>x.keys.length|2=>x.kids.length|3=>x.buf.length|_=>0
def Nd.fC (x:Nd):Nat->List Value|0=>x.aF.flatMap bj|1=>x.keys.flatMap bV|2=>x.kids.flatMap bV|3=>x.buf.flatMap bj|_=>[]
theorem vw (h:f<4):f=0\/f=1\/f=2\/f=3:=af
theorem Raw.vI (r:Raw) (hf:f<4) (v:Value):(r.sf f v).lS f=v:=by rcases vw hf with rfl|rfl|rfl|rfl <;> rfl
theorem Raw.BM (r:Raw) {g:Nat} (hf:f<4) (v:Value) (h:g≠f):(r.sf f v).lS g=r.lS g:=by
 rcases vw hf with rfl|rfl|rfl|rfl <;> (rcases lH g 4 with hg|hg) <;> first
  |(rcases vw hg with rfl|rfl|rfl|rfl <;> first|rfl|exact absurd rfl h)
  |(obtain⟨k,rfl⟩:∃k,g=k+4:=⟨g-4,af⟩;rfl)
theorem Raw.Jm (r:Raw) (f:Nat) (v:Value):(r.sf f v).leaf=r.leaf:=by unfold Raw.sf;split <;> rfl
theorem Raw.ik (r:Raw) (hf:4<=f):r.lS f = .slice none 0 0:=by obtain⟨k,rfl⟩:∃k,f=k+4:=⟨f-4,af⟩;rfl
structure gV (M:Nat) (w:World) (r:Raw) (x:Nd):Prop where
 leaf:r.leaf=x.leaf
 row:∀f,w.ownsRow M (fTy f) (fK f) (r.lS f) (x.fN f) (x.fC f)
theorem gV.block (h:gV M w r x) (hb:∀f g,(r.lS f).ownBlock=some g->w'.heap[g]?=w.heap[g]?):gV M w' r x:=⟨h.leaf,fun f=>bX (h.row f) (hb f)⟩
theorem gV.aF (h:gV M w r x):av M w r.ev x.aF:=⟨h.row 0⟩
theorem gV.buf (h:gV M w r x):av M w r.bv x.buf:=⟨h.row 3⟩
theorem gV.of (hl:r.leaf=x.leaf) (h0:w.ownsRow M 96 7 r.ev x.aF.length (x.aF.flatMap bj)) (h1:w.ownsRow M 3 1 r.kv x.keys.length (x.keys.flatMap bV))
  (h2:w.ownsRow M 3 1 r.dv x.kids.length (x.kids.flatMap bV)) (h3:w.ownsRow M 96 7 r.bv x.buf.length (x.buf.flatMap bj)):gV M w r x:=by
 refine⟨hl,fun f=>?_⟩
 rcases lH f 4 with hf|hf
 ·rcases vw hf with rfl|rfl|rfl|rfl
  ·exact h0
  ·exact h1
  ·exact h2
  ·exact h3
 ·obtain⟨k,rfl⟩:∃k,f=k+4:=⟨f-4,af⟩
  exact World.ownsRow_nil _ _ _ _
structure Bd (M:Nat) (w:World) (bb:Nat) (nv:Value) (rs:List Raw) (t:Tr):Prop where
 low:M<=bb
 box:w.heap[bb]?=some (.cells #[nv, .int .i64 t.root, .int .i64 0] 128)
 row:w.ownsRow M 119 5 nv rs.length (rs.flatMap cL)
 len:rs.length=t.nodes.length
 BR:∀(i:Nat) r x,rs[i]?=some r->t.nodes[i]?=some x->gV M w r x
 apart:∀(i j:Nat) r s f g b,rs[i]?=some r->rs[j]?=some s->(r.lS f).ownBlock=some b->(s.lS g).ownBlock=some b->i=j/\f=g
 oZ:nv.ownBlock≠some bb
 off:∀(i:Nat) r f b,rs[i]?=some r->(r.lS f).ownBlock=some b->b≠bb/\nv.ownBlock≠some b
def dE (bb:Nat) (nv:Value) (rs:List Raw) (b:Nat):Prop:=b=bb\/nv.ownBlock=some b\/∃(i:Nat) (r:Raw) (f:Nat),rs[i]?=some r/\(r.lS f).ownBlock=some b
structure nI (F F':Nat->Prop) (w w':World):Prop where
 turn:aw F w w'
 new:∀b,F' b->F b\/w.heap.size<=b
theorem nI.refl (F:Nat->Prop) (w:World):nI F F w w:=⟨aw.refl _ _,fun _ h=> .inl h⟩
theorem nI.trans {F'':Nat->Prop} {a b c:World} (h:nI F F' a b) (k:nI F' F'' b c):nI F F'' a c:=
 ⟨h.turn.trans' k.turn (fun i hi hf=>(h.new i hf).resolve_right af),fun x hx=>(k.new x hx).elim (fun hf=>h.new x hf) fun hf=> .inr (by have:=h.turn.size;omega)⟩
theorem nI.of (h:Below B w w') (hB:w.heap.size<=B):nI F F w w':=⟨aw.of h hB,fun _ h=> .inl h⟩
theorem nI.drew (h:nI F F' w w'):nI F F' w w'.drew:=⟨h.turn.drew,h.new⟩
theorem nI.drewN (h:nI F F' w w') (n:Nat):nI F F' w (w'.drewN n):=⟨h.turn.drewN n,h.new⟩
theorem nI.stay (h:nI F F' w w') {b:Nat} (hb:b<w.heap.size) (hF:¬F b):w'.heap[b]?=w.heap[b]?/\¬F' b:=
 ⟨h.turn.block b hb hF,fun hf=>(h.new b hf).elim hF af⟩
theorem Bd.lt (h:Bd M w bb nv rs t):∀b,dE bb nv rs b->M<=b/\b<w.heap.size:=by
 rintro b (rfl|hb|⟨i,r,f,hr,hb⟩)
 ·exact⟨h.low,(eW.1 h.box).1⟩
 ·exact h.row.lt b hb
 ·have hi:=(gH.1 hr).1
  rw [h.len]at hi
  exact((h.BR i r _ hr (oL hi)).row f).lt b hb
theorem Bd.world (h:Bd M w bb nv rs t) (hb:∀b,dE bb nv rs b->w'.heap[b]?=w.heap[b]?):Bd M w' bb nv rs t:=
 ⟨h.low,(hb bb (.inl rfl)).trans h.box,bX h.row fun g hg=>hb g (.inr (.inl hg)),h.len,
  fun i r x hr hx=>(h.BR i r x hr hx).block fun f g hg=>hb g (.inr (.inr ⟨i,r,f,hr,hg⟩)),h.apart,h.oZ,h.off⟩
theorem Bd.below (h:Bd M w bb nv rs t) (hb:Below B w w') (hB:w.heap.size<=B):Bd M w' bb nv rs t:=h.world fun b hf=>hb.block b (by have:=(h.lt b hf).2;omega)
theorem Bd.turn {X:Nat->Prop} (h:Bd M w bb nv rs t) (hb:aw X w w') (hX:∀b,dE bb nv rs b->¬X b):Bd M w' bb nv rs t:=h.world fun b hf=>hb.block b (h.lt b hf).2 (hX b hf)
theorem Bd.drew (h:Bd M w bb nv rs t):Bd M w.drew bb nv rs t:=h.world fun _ _=>rfl
theorem Bd.alloc (h:Bd M w bb nv rs t) (o:Obj):Bd M (w.alloc o) bb nv rs t:=h.below ((aJ _ w).alloc aI o) aI
theorem Em {v:Value} {f:Nat} (hf:f<4):∀{rs:List Raw} {n:Nat} {r:Raw},rs[n]?=some r->(rs.set n (r.sf f v)).flatMap cL=(rs.flatMap cL).set (n*5+(f+1)) v
 |[],_,_,h=>by simp at h
 |a::rs,0,r,h=>by
  simp only [List.getElem?_cons_zero,iE]at h
  subst h
  rcases vw hf with rfl|rfl|rfl|rfl <;> rfl
 |a::rs,n+1,r,h=>by
  have ih:=Em (v:=v) hf (rs:=rs) (n:=n) (r:=r) (by simpa using h)
  rw [List.set_cons_succ,gG,ih,gG,show (n+1)*5+(f+1)=n*5+(f+1)+5 from by omega]
  rfl
theorem Bd.field {w1:World} {nb cap n:Nat} {v':Value} {x':Nd} (h:Bd M w bb nv rs t) (U3:nv = .slice (some ⟨nb,0,none⟩) rs.length cap) (hr:rs[n]?=some r) (hx:t.nodes[n]?=some x) (hf:f<4)
  (hT:aw (fun b=>(r.lS f).ownBlock=some b) w w1) (hown:w1.ownsRow M (fTy f) (fK f) v' (x'.fN f) (x'.fC f)) (hv:∀b,v'.ownBlock=some b->(r.lS f).ownBlock=some b\/w.heap.size<=b)
  (hl:x'.leaf=x.leaf) (ho:∀g,g≠f->x'.fN g=x.fN g/\x'.fC g=x.fC g) {o:Nat} (hoff:o=n*5+(f+1)) :
  Bd M (w1.setCell ⟨nb,o,none⟩ v') bb nv (rs.set n (r.sf f v')) (cH t n x')/\nI (dE bb nv rs) (dE bb nv (rs.set n (r.sf f v'))) w (w1.setCell ⟨nb,o,none⟩ v'):=by
 subst hoff
 have hnb:nv.ownBlock=some nb:=by rw [U3];rfl
 have hnl:=(h.lt nb (.inr (.inl hnb))).2
 have hbl:=(h.lt bb (.inl rfl)).2
 have hn:=(gH.1 hr).1
 have vz:bb≠nb:=fun e=>h.oZ (by rw [e];exact hnb)
 -- blocks that neither step turns
 have keep:∀b,b<w.heap.size->(r.lS f).ownBlock≠some b->b≠nb->(w1.setCell ⟨nb,n*5+(f+1),none⟩ v').heap[b]?=w.heap[b]?:=fun b hb h1 h2=>
  (heap_setCell_other w1 ⟨nb,_,none⟩ b v' h2).trans (hT.block b hb h1)
 have vb:∀b,v'.ownBlock=some b->b≠bb/\b≠nb:=fun b hb=>by
  rcases hv b hb with h1|h1
  ·have:=h.off n r f b hr h1
   exact⟨this.1,fun e=>this.2 (by rw [e];exact hnb)⟩
  ·exact⟨fun e=>af,fun e=>af⟩
 have eD:∀i s,(rs.set n (r.sf f v'))[i]?=some s->(i=n/\s=r.sf f v')\/(i≠n/\rs[i]?=some s):=fun i s hs=>by
  by_cases hi:i=n
  ·subst hi
   rw [List.getElem?_set_self hn]at hs
   exact .inl ⟨rfl,(dw hs).symm⟩
  ·rw [Az (Ne.symm hi)]at hs;exact .inr ⟨hi,hs⟩
 -- where a block of the new rows comes from
 have src:∀i s g b,(rs.set n (r.sf f v'))[i]?=some s->(s.lS g).ownBlock=some b->(i=n/\g=f/\v'.ownBlock=some b)\/(¬(i=n/\g=f)/\∃s',rs[i]?=some s'/\(s'.lS g).ownBlock=some b):=fun i s g b hs hb=>by
  rcases eD i s hs with ⟨rfl,rfl⟩|⟨hi,hs⟩
  ·by_cases hg:g=f
   ·subst hg;rw [Raw.vI _ hf]at hb;exact .inl ⟨rfl,rfl,hb⟩
   ·rw [Raw.BM _ hf _ hg]at hb;exact .inr ⟨fun h=>hg h.2,r,hr,hb⟩
  ·exact .inr ⟨fun h=>hi h.1,s,hs,hb⟩
 have old:∀i s g b,¬(i=n/\g=f)->rs[i]?=some s->(s.lS g).ownBlock=some b->b<w.heap.size/\(r.lS f).ownBlock≠some b/\b≠nb:=fun i s g b hne hs hb=>
  ⟨(h.lt b (.inr (.inr ⟨i,s,g,hs,hb⟩))).2,fun e=>hne (h.apart i n s r g f b hs hr hb e),fun e=>(h.off i s g b hs hb).2 (by rw [e];exact hnb)⟩
 refine⟨⟨h.low,?_,?_,?_,?_,?_,h.oZ,?_⟩,⟨?_,?_⟩⟩
 ·exact(keep bb hbl (fun e=>(h.off n r f bb hr e).1 rfl) vz).trans h.box
 ·have h1:w1.ownsRow M 119 5 nv rs.length (rs.flatMap cL):=bX h.row fun g hg=>hT.block g (h.row.lt g hg).2 (fun e=>(h.off n r f g hr e).2 hg)
  rw [Em hf hr,zQ]
  rw [U3]at h1 ⊢
  exact(World.ownsRow.stored h1 _ _).1
 ·rw [zQ,h.len];exact(iI t n x').symm
 ·intro i s y hs hy
  have hyx:y=if i=n then x' else y:=by
   by_cases hi:i=n
   ·subst hi
    have:(cH t (i:Int) x').nodes[i]?=some x':=by show (t.nodes.set _ x')[i]?=_;rw [Int.toNat_natCast];exact List.getElem?_set_self (gH.1 hx).1
    rw [this]at hy
    rw [ar rfl];exact(dw hy).symm
   ·rw [ai hi]
  by_cases hi:i=n
  ·rw [ar hi]at hyx
   subst hyx
   rcases eD i s hs with ⟨_,rfl⟩|⟨hi',_⟩
   ·refine⟨by rw [Raw.Jm,hl];exact(h.BR n r x hr hx).leaf,fun g=>?_⟩
    by_cases hg:g=f
    ·subst hg
     rw [Raw.vI _ hf]
     exact bX hown fun b hb=>heap_setCell_other w1 ⟨nb,_,none⟩ b v' (vb b hb).2
    ·rw [Raw.BM _ hf _ hg,(ho g hg).1,(ho g hg).2]
     exact bX ((h.BR n r x hr hx).row g) fun b hb=>by
      obtain⟨k1,k2,k3⟩:=old n r g b (fun hh=>hg hh.2) hr hb
      exact keep b k1 k2 k3
   ·exact absurd hi hi'
  ·rcases eD i s hs with ⟨hi',_⟩|⟨_,hs⟩
   ·exact absurd hi' hi
   ·have hy':t.nodes[i]?=some y:=by
     have:(cH t (n:Int) x').nodes[i]?=t.nodes[i]?:=by simp [cH,Az (Ne.symm hi)]
     rw [<-this];exact hy
    exact(h.BR i s y hs hy').block fun g b hb=>by
     obtain⟨k1,k2,k3⟩:=old i s g b (fun hh=>hi hh.1) hs hb
     exact keep b k1 k2 k3
 ·intro i j s u g k b hs hu hb hb'
  rcases src i s g b hs hb with ⟨rfl,rfl,e1⟩|⟨n1,s',hs',e1⟩
  ·rcases src j u k b hu hb' with ⟨rfl,rfl,e2⟩|⟨n2,u',hu',e2⟩
   ·exact⟨rfl,rfl⟩
   ·obtain⟨k1,k2,k3⟩:=old j u' k b n2 hu' e2
    rcases hv b e1 with h1|h1
    ·exact absurd h1 k2
    ·omega
  ·rcases src j u k b hu hb' with ⟨rfl,rfl,e2⟩|⟨n2,u',hu',e2⟩
   ·obtain⟨k1,k2,k3⟩:=old i s' g b n1 hs' e1
    rcases hv b e2 with h1|h1
    ·exact absurd h1 k2
    ·omega
   ·exact h.apart i j s' u' g k b hs' hu' e1 e2
 ·intro i s g b hs hb
  rcases src i s g b hs hb with ⟨rfl,rfl,e1⟩|⟨n1,s',hs',e1⟩
  ·have:=vb b e1
   exact⟨this.1,fun e=>this.2 (dw (e.symm.trans hnb))⟩
  ·exact h.off i s' g b hs' e1
 ·exact aw.setCell (hT.mono fun b _ hb=> .inr (.inr ⟨n,r,f,hr,hb⟩)) (.inl (.inr (.inl hnb))) v'
 ·rintro b (rfl|hb|⟨i,s,g,hs,hb⟩)
  ·exact .inl (.inl rfl)
  ·exact .inl (.inr (.inl hb))
  ·rcases src i s g b hs hb with ⟨rfl,rfl,e1⟩|⟨n1,s',hs',e1⟩
   ·rcases hv b e1 with h1|h1
    ·exact .inl (.inr (.inr ⟨_,r,_,hr,h1⟩))
    ·exact .inr h1
   ·exact .inl (.inr (.inr ⟨i,s',g,hs',e1⟩))
end
section
variable {rs:List Raw} {b M bb nb cap:Nat} {x:Nd} {r:Raw} {t:Tr} {nv:Value} {w w1:World}
theorem zn {a0 a1 a2 v:Value} {T:TypeId} {fr:Nat×Nat} (h:w.heap[b]?=some (.cells #[a0,a1,a2] T fr)):(w.setCell ⟨b,0,none⟩ v).heap[b]?=some (.cells #[v,a1,a2] T fr):=by
 have h:=heap_setCell_same (off:=0) (v:=v) h
 simpa using h
structure E5 (M H:Nat) (w:World) (r:Raw) (x:Nd):Prop where
 own:gV M w r x
 new:∀f b,(r.lS f).ownBlock=some b->H<=b/\b<w.heap.size
 apart:∀f g b,(r.lS f).ownBlock=some b->(r.lS g).ownBlock=some b->f=g
theorem Bd.push {kX:Value} (h:Bd M w bb nv rs t) (hT:aw (fun b=>nv.ownBlock=some b) w w1)
  (hrow:w1.ownsRow M 119 5 kX (rs.length+1) (rs.flatMap cL++cL r)) (hv:∀b,kX.ownBlock=some b->nv.ownBlock=some b\/w.heap.size<=b)
  (hF:E5 M w.heap.size w1 r x) (hd:∀f b,(r.lS f).ownBlock=some b->kX.ownBlock≠some b) :
  Bd M (w1.setCell ⟨bb,0,none⟩ kX) bb kX (rs++[r]) (jo t x)/\nI (dE bb nv rs) (dE bb kX (rs++[r])) w (w1.setCell ⟨bb,0,none⟩ kX):=by
 have hbl:=(h.lt bb (.inl rfl)).2
 have keep:∀b,b<w.heap.size->nv.ownBlock≠some b->b≠bb->(w1.setCell ⟨bb,0,none⟩ kX).heap[b]?=w.heap[b]?:=fun b hb h1 h2=>(heap_setCell_other w1 ⟨bb,_,none⟩ b kX h2).trans (hT.block b hb h1)
 have vb:kX.ownBlock≠some bb:=fun e=>by
  rcases hv bb e with h1|h1
  ·exact h.oZ h1
  ·omega
 have hnew:∀f b,(r.lS f).ownBlock=some b->b≠bb/\w.heap.size<=b:=fun f b hb=>by
  have:=hF.new f b hb
  exact⟨fun e=>af,this.1⟩
 have eD:∀i s,(rs++[r])[i]?=some s->(i=rs.length/\s=r)\/(i<rs.length/\rs[i]?=some s):=fun i s hs=>by
  rcases lH i rs.length with hi|hi
  ·rw [zP hi]at hs;exact .inr ⟨hi,hs⟩
  ·rw [List.getElem?_append_right hi]at hs
   have hlt:=(gH.1 hs).1
   simp only [List.length_singleton]at hlt
   have:i=rs.length:=af
   subst this
   simp at hs;exact .inl ⟨rfl,hs.symm⟩
 have old:∀(i:Nat) s f b,rs[i]?=some s->(s.lS f).ownBlock=some b->b<w.heap.size/\nv.ownBlock≠some b/\b≠bb:=fun i s f b hs hb=>
  ⟨(h.lt b (.inr (.inr ⟨i,s,f,hs,hb⟩))).2,(h.off i s f b hs hb).2,(h.off i s f b hs hb).1⟩
 refine⟨⟨h.low,?_,?_,?_,?_,?_,vb,?_⟩,⟨?_,?_⟩⟩
 ·exact zn ((hT.block bb hbl h.oZ).trans h.box)
 ·rw [eP,tM]
  refine bX (w:=w1) (by simpa using hrow) fun b hb=>heap_setCell_other w1 ⟨bb,_,none⟩ b kX (fun e=>vb (by rw [e]at hb;exact hb))
 ·rw [eP,Iz,h.len];rfl
 ·intro i s y hs hy
  rcases eD i s hs with ⟨rfl,rfl⟩|⟨hi,hs⟩
  ·have:(jo t x).nodes[rs.length]?=some x:=by rw [h.len];simp [jo]
   obtain rfl:=dw (this.symm.trans hy)
   exact hF.own.block fun f b hb=>heap_setCell_other w1 ⟨bb,_,none⟩ b kX (hnew f b hb).1
  ·have hy':t.nodes[i]?=some y:=by
    rw [<-hy];exact(zP (by rw [<-h.len];exact hi)).symm
   exact(h.BR i s y hs hy').block fun f b hb=>by
    obtain⟨k1,k2,k3⟩:=old i s f b hs hb
    exact keep b k1 k2 k3
 ·intro i j s u f g b hs hu hb hb'
  rcases eD i s hs with ⟨rfl,rfl⟩|⟨hi,hs2⟩
  ·rcases eD j u hu with ⟨rfl,rfl⟩|⟨hj,hu2⟩
   ·exact⟨rfl,hF.apart f g b hb hb'⟩
   ·have:=(old j u g b hu2 hb').1;have:=(hnew f b hb).2;omega
  ·rcases eD j u hu with ⟨rfl,rfl⟩|⟨hj,hu2⟩
   ·have:=(old i s f b hs2 hb).1;have:=(hnew g b hb').2;omega
   ·exact h.apart i j s u f g b hs2 hu2 hb hb'
 ·intro i s f b hs hb
  rcases eD i s hs with ⟨rfl,rfl⟩|⟨hi,hs⟩
  ·exact⟨(hnew f b hb).1,hd f b hb⟩
  ·obtain⟨k1,k2,k3⟩:=old i s f b hs hb
   exact⟨k3,fun e=>(hv b e).elim k2 af⟩
 ·exact aw.setCell (hT.mono fun b _ hb=> .inr (.inl hb)) (.inl (.inl rfl)) kX
 ·rintro b (rfl|hb|⟨i,s,f,hs,hb⟩)
  ·exact .inl (.inl rfl)
  ·exact(hv b hb).imp (fun h=> .inr (.inl h)) id
  ·rcases eD i s hs with ⟨rfl,rfl⟩|⟨hi,hs⟩
   ·exact .inr (hnew f b hb).2
   ·exact .inl (.inr (.inr ⟨i,s,f,hs,hb⟩))
theorem lF {g i:Nat} {v0 v1 v2 v3 v4:Value} (h:b≠g):(((((w.setCell ⟨g,i,none⟩ v0).setCell ⟨g,i+1,none⟩ v1).setCell ⟨g,i+2,none⟩ v2).setCell ⟨g,i+3,none⟩ v3).setCell ⟨g,i+4,none⟩ v4).heap[b]?=w.heap[b]?:=by
 rw [heap_setCell_other _ ⟨g,_,none⟩ b _ h,heap_setCell_other _ ⟨g,_,none⟩ b _ h,heap_setCell_other _ ⟨g,_,none⟩ b _ h,heap_setCell_other _ ⟨g,_,none⟩ b _ h,heap_setCell_other _ ⟨g,_,none⟩ b _ h]
theorem Bd.whole {n:Nat} (h:Bd M w bb nv rs t) (U3:nv = .slice (some ⟨nb,0,none⟩) rs.length cap) (hn:n<rs.length)
  (hT:ah w w1) (hF:E5 M w.heap.size w1 r x) :
  Bd M (((((w1.setCell ⟨nb,n*5,none⟩ (.bool r.leaf)).setCell ⟨nb,n*5+1,none⟩ r.ev).setCell ⟨nb,n*5+2,none⟩ r.kv).setCell ⟨nb,n*5+3,none⟩ r.dv).setCell ⟨nb,n*5+4,none⟩ r.bv) bb nv (rs.set n r) (cH t n x) /\
  nI (dE bb nv rs) (dE bb nv (rs.set n r)) w (((((w1.setCell ⟨nb,n*5,none⟩ (.bool r.leaf)).setCell ⟨nb,n*5+1,none⟩ r.ev).setCell ⟨nb,n*5+2,none⟩ r.kv).setCell ⟨nb,n*5+3,none⟩ r.dv).setCell ⟨nb,n*5+4,none⟩ r.bv):=by
 have hnb:nv.ownBlock=some nb:=by rw [U3];rfl
 have hnl:=(h.lt nb (.inr (.inl hnb))).2
 have hbl:=(h.lt bb (.inl rfl)).2
 have vz:bb≠nb:=fun e=>h.oZ (by rw [e];exact hnb)
 have keep:∀b,b<w.heap.size->b≠nb->(((((w1.setCell ⟨nb,n*5,none⟩ (.bool r.leaf)).setCell ⟨nb,n*5+1,none⟩ r.ev).setCell ⟨nb,n*5+2,none⟩ r.kv).setCell ⟨nb,n*5+3,none⟩ r.dv).setCell ⟨nb,n*5+4,none⟩ r.bv).heap[b]?=w.heap[b]?:=fun b hb h2=>(lF h2).trans (hT.block b hb)
 have hnew:∀f b,(r.lS f).ownBlock=some b->b≠bb/\b≠nb/\w.heap.size<=b:=fun f b hb=>by
  have:=hF.new f b hb
  exact⟨fun e=>af,fun e=>af,this.1⟩
 have eD:∀i s,(rs.set n r)[i]?=some s->(i=n/\s=r)\/(i≠n/\rs[i]?=some s):=fun i s hs=>by
  by_cases hi:i=n
  ·subst hi
   rw [List.getElem?_set_self hn]at hs
   exact .inl ⟨rfl,(dw hs).symm⟩
  ·rw [Az (Ne.symm hi)]at hs;exact .inr ⟨hi,hs⟩
 have old:∀(i:Nat) s f b,rs[i]?=some s->(s.lS f).ownBlock=some b->b<w.heap.size/\b≠nb/\b≠bb:=fun i s f b hs hb=>
  ⟨(h.lt b (.inr (.inr ⟨i,s,f,hs,hb⟩))).2,fun e=>(h.off i s f b hs hb).2 (by rw [e];exact hnb),(h.off i s f b hs hb).1⟩
 refine⟨⟨h.low,?_,?_,?_,?_,?_,h.oZ,?_⟩,⟨?_,?_⟩⟩
 ·exact(keep bb hbl vz).trans h.box
 ·have h1:w1.ownsRow M 119 5 nv rs.length (rs.flatMap cL):=bX h.row fun g hg=>hT.block g (h.row.lt g hg).2
  rw [zQ]
  rw [U3]at h1 ⊢
  exact pP h1 hn rfl
 ·rw [zQ,h.len];exact(iI t n x).symm
 ·intro i s y hs hy
  rcases eD i s hs with ⟨rfl,rfl⟩|⟨hi,hs⟩
  ·have:(cH t (i:Int) x).nodes[i]?=some x:=by show (t.nodes.set _ x)[i]?=_;rw [Int.toNat_natCast];exact List.getElem?_set_self (by rw [<-h.len];exact hn)
   obtain rfl:=dw (this.symm.trans hy)
   exact hF.own.block fun f b hb=>lF (hnew f b hb).2.1
  ·have hy':t.nodes[i]?=some y:=by
    have:(cH t (n:Int) x).nodes[i]?=t.nodes[i]?:=by simp [cH,Az (Ne.symm hi)]
    rw [<-this];exact hy
   exact(h.BR i s y hs hy').block fun f b hb=>by
    obtain⟨k1,k2,k3⟩:=old i s f b hs hb
    exact keep b k1 k2
 ·intro i j s u f g b hs hu hb hb'
  rcases eD i s hs with ⟨rfl,rfl⟩|⟨hi,hs2⟩
  ·rcases eD j u hu with ⟨rfl,rfl⟩|⟨hj,hu2⟩
   ·exact⟨rfl,hF.apart f g b hb hb'⟩
   ·have:=(old j u g b hu2 hb').1;have:=(hnew f b hb).2.2;omega
  ·rcases eD j u hu with ⟨rfl,rfl⟩|⟨hj,hu2⟩
   ·have:=(old i s f b hs2 hb).1;have:=(hnew g b hb').2.2;omega
   ·exact h.apart i j s u f g b hs2 hu2 hb hb'
 ·intro i s f b hs hb
  rcases eD i s hs with ⟨rfl,rfl⟩|⟨hi,hs⟩
  ·exact⟨(hnew f b hb).1,fun e=>(hnew f b hb).2.1 (dw (e.symm.trans hnb))⟩
  ·exact h.off i s f b hs hb
 ·have hX:dE bb nv rs nb:= .inr (.inl hnb)
  exact aw.setCell (aw.setCell (aw.setCell (aw.setCell (aw.setCell (aw.of hT aI) (.inl hX) _) (.inl hX) _) (.inl hX) _) (.inl hX) _) (.inl hX) _
 ·rintro b (rfl|hb|⟨i,s,f,hs,hb⟩)
  ·exact .inl (.inl rfl)
  ·exact .inl (.inr (.inl hb))
  ·rcases eD i s hs with ⟨rfl,rfl⟩|⟨hi,hs⟩
   ·exact .inr (hnew f b hb).2.2
   ·exact .inl (.inr (.inr ⟨i,s,f,hs,hb⟩))
theorem Bd.place (h:Bd M w bb nv rs t) {n:Int} (hx:t.dn n=some x) :
  ∃(k nb cap:Nat) (r:Raw),n=(k:Int)/\nv = .slice (some ⟨nb,0,none⟩) rs.length cap/\rs[k]?=some r/\t.nodes[k]?=some x/\k<rs.length/\gV M w r x:=by
 unfold Tr.dn at hx
 split at hx
 ·rename_i h0
  have hlt:=(gH.1 hx).1
  rw [<-h.len]at hlt
  obtain⟨hl,⟨rfl,h0'⟩|⟨g,cap,cur,hv,_⟩⟩:=h.row
  ·omega
  ·refine⟨n.toNat,g,cap,rs[n.toNat],af,hv,oL hlt,hx,hlt,h.BR _ _ _ (oL hlt) hx⟩
 ·cases hx
theorem Bd.cells {k:Nat} (h:Bd M w bb (.slice (some ⟨nb,0,none⟩) rs.length cap) rs t) (hr:rs[k]?=some r) :
  w.cell? ⟨bb,0,none⟩=some (.slice (some ⟨nb,0,none⟩) rs.length cap)/\w.cell? ⟨nb,k*5,none⟩=some (.bool r.leaf)/\w.cell? ⟨nb,k*5+1,none⟩=some r.ev/\w.cell? ⟨nb,k*5+2,none⟩=some r.kv /\
  w.cell? ⟨nb,k*5+3,none⟩=some r.dv/\w.cell? ⟨nb,k*5+4,none⟩=some r.bv/\(∀o,w.frozen? ⟨nb,o,none⟩=false)/\(∀o,w.frozen? ⟨bb,o,none⟩=false)/\bb<w.heap.size/\nb<w.heap.size/\bb≠nb:=by
 obtain⟨hk,rfl⟩:=gH.1 hr
 obtain⟨c0,c1,c2,c3,c4,cf⟩:=vM h.row rfl hk
 exact⟨by simp [World.cell?,h.box],c0,c1,c2,c3,c4,cf,fun o=>by simp [World.frozen?,h.box],(h.lt bb (.inl rfl)).2,(h.lt nb (.inr (.inl rfl))).2,fun e=>h.oZ (by rw [e];rfl)⟩
theorem Bd.nodes (h:Bd M w bb nv rs t) (hs:rs.length<=1000000) (hn:∀x∈t.nodes,∀f,x.fN f<=1000000):bu w nv t.nodes:=by
 refine⟨rs,dN.owned gh h.row rfl af,h.len,fun i r x hr hx=>?_⟩
 have o:=h.BR i r x hr hx
 have hm:=hn x (List.mem_of_getElem? hx)
 exact⟨o.leaf,dN.owned dg (o.row 0) rfl (by have:x.aF.length<=_:=hm 0;omega),dN.owned kE (o.row 1) rfl (by have:x.keys.length<=_:=hm 1;omega),
  dN.owned kE (o.row 2) rfl (by have:x.kids.length<=_:=hm 2;omega),dN.owned dg (o.row 3) rfl (by have:x.buf.length<=_:=hm 3;omega)⟩
end
end Go.Proofs.YtmljjfhgciaceaaDoor
