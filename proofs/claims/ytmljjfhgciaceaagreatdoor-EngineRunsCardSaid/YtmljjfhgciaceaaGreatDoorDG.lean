/- Lemmas of the proof. -/
import Derived.Test.YtmljjfhgciaceaaGreatDoorHd
import Derived.Test.YtmljjfhgciaceaaGreatDoorCz
import Derived.Test.YtmljjfhgciaceaaGreatDoorMerged
import Derived.Test.YtmljjfhgciaceaaGreatDoorBK
import Derived.Test.YtmljjfhgciaceaaGreatDoorPU
namespace Go.Proofs.YtmljjfhgciaceaaGreatDoor
open Go.RowKit
section
variable {rs:List Raw} {us:List Value} {f M B bb:Nat} {F F':Nat->Prop} {x:Nd} {r:Raw} {t:Tr} {e:TypeId} {nv:Value} {w w':World}
theorem bJ {size n:Nat} {v:Value} (h:w.ownsRow B e size v n us) (hb:∀g,v.ownBlock=some g->w'.heap[g]?=w.heap[g]?):w'.ownsRow B e size v n us:=by
 obtain⟨hl,⟨rfl,h0⟩|⟨g,cap,cur,rfl,hB,hg,h1,h2,h3,h4⟩⟩:=h
 ·exact⟨hl, .inl ⟨rfl,h0⟩⟩
 ·exact⟨hl, .inr ⟨g,cap,cur,rfl,hB,(hb g rfl).trans hg,h1,h2,h3,h4⟩⟩
theorem cF {C size n:Nat} {v:Value} (h:w.ownsRow B e size v n us) (hC:C<=B):w.ownsRow C e size v n us:=by
 obtain⟨hl,⟨rfl,h0⟩|⟨g,cap,cur,rfl,hB,hg,h1,h2,h3,h4⟩⟩:=h
 ·exact⟨hl, .inl ⟨rfl,h0⟩⟩
 ·exact⟨hl, .inr ⟨g,cap,cur,rfl,ai,hg,h1,h2,h3,h4⟩⟩
def fTy:Nat->TypeId|0=>107|3=>107|_=>3
def fK:Nat->Nat|0=>7|3=>7|_=>1
def Raw.iQ (r:Raw):Nat->Value|0=>r.ev|1=>r.kv|2=>r.dv|3=>r.bv|_=>az 0 0
def Raw.kR (r:Raw) (f:Nat) (v:Value):Raw:=match f with|0=>{ r with ev:=v }|1=>{ r with kv:=v }|2=>{ r with dv:=v }|3=>{ r with bv:=v }|_=>r
def Nd.fN (x:Nd):Nat->Nat|0=>x.aI.length|1=>x.keys.length|2=>x.kids.length|3=>x.buf.length|_=>0
def Nd.fC (x:Nd):Nat->List Value|0=>x.aI.flatMap bu|1=>x.keys.flatMap bP|2=>x.kids.flatMap bP|3=>x.buf.flatMap bu|_=>[]
theorem xg (h:f<4):f=0\/f=1\/f=2\/f=3:=ai
theorem Raw.pO (r:Raw) (hf:f<4) (v:Value):(r.kR f v).iQ f=v:=by rcases xg hf with rfl|rfl|rfl|rfl <;> rfl
theorem Raw.vw (r:Raw) {g:Nat} (hf:f<4) (v:Value) (h:g≠f):(r.kR f v).iQ g=r.iQ g:=by
 rcases xg hf with rfl|rfl|rfl|rfl <;> (rcases mA g 4 with hg|hg) <;> first
  |(rcases xg hg with rfl|rfl|rfl|rfl <;> first|rfl|exact absurd rfl h)
  |(obtain⟨k,rfl⟩:∃k,g=k+4:=⟨g-4,ai⟩;rfl)
theorem Raw.EH (r:Raw) (f:Nat) (v:Value):(r.kR f v).leaf=r.leaf:=by unfold Raw.kR;split <;> rfl
theorem Raw.iH (r:Raw) (hf:4<=f):r.iQ f=az 0 0:=by obtain⟨k,rfl⟩:∃k,f=k+4:=⟨f-4,ai⟩;rfl
structure gQ (M:Nat) (w:World) (r:Raw) (x:Nd):Prop where
 leaf:r.leaf=x.leaf
 row:∀f,w.ownsRow M (fTy f) (fK f) (r.iQ f) (x.fN f) (x.fC f)
theorem gQ.block (h:gQ M w r x) (hb:∀f g,(r.iQ f).ownBlock=some g->w'.heap[g]?=w.heap[g]?):gQ M w' r x:=⟨h.leaf,fun f=>bJ (h.row f) (hb f)⟩
theorem gQ.aI (h:gQ M w r x):ay M w r.ev x.aI:=⟨h.row 0⟩
theorem gQ.buf (h:gQ M w r x):ay M w r.bv x.buf:=⟨h.row 3⟩
theorem gQ.of (hl:r.leaf=x.leaf) (h0:w.ownsRow M 107 7 r.ev x.aI (x.aI.flatMap bu)) (h1:w.ownsRow M 3 1 r.kv x.keys (x.keys.flatMap bP))
  (h2:w.ownsRow M 3 1 r.dv x.kids (x.kids.flatMap bP)) (h3:w.ownsRow M 107 7 r.bv x.buf (x.buf.flatMap bu)):gQ M w r x:=by
 refine⟨hl,fun f=>?_⟩;rcases mA f 4 with hf|hf
 ·rcases xg hf with rfl|rfl|rfl|rfl
  ·exact h0
  ·exact h1
  ·exact h2
  ·exact h3
 ·obtain⟨k,rfl⟩:∃k,f=k+4:=⟨f-4,ai⟩;exact oV _ _ _ _
structure Bd (M:Nat) (w:World) (bb:Nat) (nv:Value) (rs:List Raw) (t:Tr):Prop where
 low:M<=bb
 box:w.heap[bb]?=some (.cells #[nv,af t.root,af 0] 165)
 row:w.ownsRow M 125 5 nv rs (rs.flatMap bS)
 len:rs=t.nodes.length
 uz:∀(i:Nat) r x,rs[i]?=some r->t.nodes[i]?=some x->gQ M w r x
 apart:∀(i j:Nat) r s f g b,rs[i]?=some r->rs[j]?=some s->(r.iQ f).ownBlock=some b->(s.iQ g).ownBlock=some b->i=j/\f=g
 oN:nv.ownBlock≠some bb
 off:∀(i:Nat) r f b,rs[i]?=some r->(r.iQ f).ownBlock=some b->b≠bb/\nv.ownBlock≠some b
def dY (bb:Nat) (nv:Value) (rs:List Raw) (b:Nat):Prop:=b=bb\/nv.ownBlock=some b\/∃(i:Nat) (r:Raw) (f:Nat),rs[i]?=some r/\(r.iQ f).ownBlock=some b
structure qB (F F':Nat->Prop) (w w':World):Prop where
 turn:aA F w w'
 new:∀b,F' b->F b\/w.heap.size<=b
theorem qB.refl (F:Nat->Prop) (w:World):qB F F w w:=⟨aA.refl _ _,fun _ h=> .inl h⟩
theorem qB.trans {F'':Nat->Prop} {a b c:World} (h:qB F F' a b) (k:qB F' F'' b c):qB F F'' a c:=
 ⟨h.turn.trans' k.turn (fun i hi hf=>(h.new i hf).resolve_right ai),fun x hx=>(k.new x hx).elim (fun hf=>h.new x hf) fun hf=> .inr (by have:=h.turn.size;omega)⟩
theorem qB.of (h:Below B w w') (hB:w<=B):qB F F w w':=⟨aA.of h hB,fun _ h=> .inl h⟩
theorem qB.drew (h:qB F F' w w'):qB F F' w w'.drew:=⟨h.turn.drew,h.new⟩
theorem qB.drewN (h:qB F F' w w') (n:Nat):qB F F' w (w'.drewN n):=⟨h.turn.drewN n,h.new⟩
theorem qB.stay (h:qB F F' w w') {b:Nat} (hb:b<w) (hF:¬F b):w'.heap[b]?=w.heap[b]?/\¬F' b:=
 ⟨h.turn.block b hb hF,fun hf=>(h.new b hf).elim hF ai⟩
theorem Bd.lt (h:Bd M w bb nv rs t):∀b,dY bb nv rs b->M<=b/\b<w.heap.size:=by
 rintro b (rfl|hb|⟨i,r,f,hr,hb⟩)
 ·exact⟨h.low,(eJ.1 h.box).1⟩
 ·exact h.row.lt b hb
 ·have hi:=(dW.1 hr).1;rw [h.len]at hi;exact((h.uz i r _ hr (oZ hi)).row f).lt b hb
theorem Bd.world (h:Bd M w bb nv rs t) (hb:∀b,dY bb nv rs b->w'.heap[b]?=w.heap[b]?):Bd M w' bb nv rs t:=
 ⟨h.low,(hb bb (.inl rfl)).trans h.box,bJ h.row fun g hg=>hb g (.inr (.inl hg)),h.len,
  fun i r x hr hx=>(h.uz i r x hr hx).block fun f g hg=>hb g (.inr (.inr ⟨i,r,f,hr,hg⟩)),h.apart,h.oN,h.off⟩
theorem Bd.below (h:Bd M w bb nv rs t) (hb:Below B w w') (hB:w<=B):Bd M w' bb nv rs t:=h.world fun b hf=>hb.block b (by have:=(h.lt b hf).2;omega)
theorem Bd.turn {X:Nat->Prop} (h:Bd M w bb nv rs t) (hb:aA X w w') (hX:∀b,dY bb nv rs b->¬X b):Bd M w' bb nv rs t:=h.world fun b hf=>hb.block b (h.lt b hf).2 (hX b hf)
theorem Bd.drew (h:Bd M w bb nv rs t):Bd M w.drew bb nv rs t:=h.world fun _ _=>rfl
theorem Bd.alloc (h:Bd M w bb nv rs t) (o:Obj):Bd M (w.alloc o) bb nv rs t:=h.below ((aW _ w).alloc aO o) aO
theorem Jo {v:Value} {f:Nat} (hf:f<4):∀{rs:List Raw} {n:Nat} {r:Raw},rs[n]?=some r->(rs.set n (r.kR f v)).flatMap bS=(rs.flatMap bS).set (n*5+(f+1)) v
 |[],_,_,h=>by simp at h
 |a::rs,0,r,h=>by
  simp only [List.getElem?_cons_zero,iJ]at h;subst h;rcases xg hf with rfl|rfl|rfl|rfl <;> rfl
 |a::rs,n+1,r,h=>by
  have ih:=Jo (v:=v) hf (rs:=rs) (n:=n) (r:=r) (by simpa using h);rw [List.set_cons_succ,fO,ih,fO,show (n+1)*5+(f+1)=n*5+(f+1)+5 from by omega];rfl
theorem Bd.field {w1:World} {nb cap n:Nat} {v':Value} {x':Nd} (h:Bd M w bb nv rs t) (hnv:nv=ah nb rs cap) (hr:rs[n]?=some r) (hx:t.nodes[n]?=some x) (hf:f<4)
  (hT:aA (fun b=>(r.iQ f).ownBlock=some b) w w1) (hown:w1.ownsRow M (fTy f) (fK f) v' (x'.fN f) (x'.fC f)) (hv:∀b,v'.ownBlock=some b->(r.iQ f).ownBlock=some b\/w.heap.size<=b)
  (hl:x'.leaf=x.leaf) (ho:∀g,g≠f->x'.fN g=x.fN g/\x'.fC g=x.fC g) {o:Nat} (hoff:o=n*5+(f+1)) :
  Bd M (w1.setCell (nb,o) v') bb nv (rs.set n (r.kR f v')) (dz t n x')/\qB (dY bb nv rs) (dY bb nv (rs.set n (r.kR f v'))) w (w1.setCell (nb,o) v'):=by
 subst hoff;have hnb:nv.ownBlock=some nb:=by rw [hnv];rfl
 have hnl:=(h.lt nb (.inr (.inl hnb))).2;have hbl:=(h.lt bb (.inl rfl)).2;have hn:=(dW.1 hr).1;have xj:bb≠nb:=fun e=>h.oN (by rw [e];exact hnb)
 -- blocks that neither step turns
 have keep:∀b,b<w.heap.size->(r.iQ f).ownBlock≠some b->b≠nb->(w1.setCell (nb,n*5+(f+1)) v').heap[b]?=w.heap[b]?:=fun b hb h1 h2=>
  (cH w1 ⟨nb,_,none⟩ b v' h2).trans (hT.block b hb h1)
 have vb:∀b,v'.ownBlock=some b->b≠bb/\b≠nb:=fun b hb=>by
  rcases hv b hb with h1|h1
  ·have:=h.off n r f b hr h1;exact⟨this.1,fun e=>this.2 (by rw [e];exact hnb)⟩
  ·exact⟨fun e=>ai,fun e=>ai⟩
 have fE:∀i s,(rs.set n (r.kR f v'))[i]?=some s->(i=n/\s=r.kR f v')\/(i≠n/\rs[i]?=some s):=fun i s hs=>by
  by_cases hi:i=n
  ·subst hi;rw [List.getElem?_set_self hn]at hs;exact .inl ⟨rfl,(dh hs).symm⟩
  ·rw [zV (Ne.symm hi)]at hs;exact .inr ⟨hi,hs⟩
 -- where a block of the new rows comes from
 have src:∀i s g b,(rs.set n (r.kR f v'))[i]?=some s->(s.iQ g).ownBlock=some b->(i=n/\g=f/\v'.ownBlock=some b)\/(¬(i=n/\g=f)/\∃s',rs[i]?=some s'/\(s'.iQ g).ownBlock=some b):=fun i s g b hs hb=>by
  rcases fE i s hs with ⟨rfl,rfl⟩|⟨hi,hs⟩
  ·by_cases hg:g=f
   ·subst hg;rw [Raw.pO _ hf]at hb;exact .inl ⟨rfl,rfl,hb⟩
   ·rw [Raw.vw _ hf _ hg]at hb;exact .inr ⟨fun h=>hg h.2,r,hr,hb⟩
  ·exact .inr ⟨fun h=>hi h.1,s,hs,hb⟩
 have old:∀i s g b,¬(i=n/\g=f)->rs[i]?=some s->(s.iQ g).ownBlock=some b->b<w.heap.size/\(r.iQ f).ownBlock≠some b/\b≠nb:=fun i s g b hne hs hb=>
  ⟨(h.lt b (.inr (.inr ⟨i,s,g,hs,hb⟩))).2,fun e=>hne (h.apart i n s r g f b hs hr hb e),fun e=>(h.off i s g b hs hb).2 (by rw [e];exact hnb)⟩
 refine⟨⟨h.low,?_,?_,?_,?_,?_,h.oN,?_⟩,⟨?_,?_⟩⟩
 ·exact(keep bb hbl (fun e=>(h.off n r f bb hr e).1 rfl) xj).trans h.box
 ·have h1:w1.ownsRow M 125 5 nv rs (rs.flatMap bS):=bJ h.row fun g hg=>hT.block g (h.row.lt g hg).2 (fun e=>(h.off n r f g hr e).2 hg);rw [Jo hf hr,xx];rw [hnv]at h1 ⊢;exact(yV h1 _ _).1
 ·rw [xx,h.len];exact(jK t n x').symm
 ·intro i s y hs hy;have hyx:y=if i=n then x' else y:=by
   by_cases hi:i=n
   ·subst hi;have:(dz t (i:Int) x').nodes[i]?=some x':=(by show (t.nodes.set _ x')[i]?=_;rw [Int.toNat_natCast];exact List.getElem?_set_self (dW.1 hx).1);rw [this]at hy;rw [aw rfl];exact(dh hy).symm
   ·rw [ar hi]
  by_cases hi:i=n
  ·rw [aw hi]at hyx;subst hyx;rcases fE i s hs with ⟨_,rfl⟩|⟨hi',_⟩
   ·refine⟨by rw [Raw.EH,hl];exact(h.uz n r x hr hx).leaf,fun g=>?_⟩;by_cases hg:g=f
    ·subst hg;rw [Raw.pO _ hf];exact bJ hown fun b hb=>cH w1 ⟨nb,_,none⟩ b v' (vb b hb).2
    ·rw [Raw.vw _ hf _ hg,(ho g hg).1,(ho g hg).2];exact bJ ((h.uz n r x hr hx).row g) fun b hb=>by
      obtain⟨k1,k2,k3⟩:=old n r g b (fun hh=>hg hh.2) hr hb;exact keep b k1 k2 k3
   ·exact absurd hi hi'
  ·rcases fE i s hs with ⟨hi',_⟩|⟨_,hs⟩
   ·exact absurd hi' hi
   ·have hy':t.nodes[i]?=some y:=by
     have:(dz t (n:Int) x').nodes[i]?=t.nodes[i]?:=(by simp [dz,zV (Ne.symm hi)]);rw [<-this];exact hy
    exact(h.uz i s y hs hy').block fun g b hb=>by
     obtain⟨k1,k2,k3⟩:=old i s g b (fun hh=>hi hh.1) hs hb;exact keep b k1 k2 k3
 ·intro i j s u g k b hs hu hb hb';rcases src i s g b hs hb with ⟨rfl,rfl,e1⟩|⟨n1,s',hs',e1⟩
  ·rcases src j u k b hu hb' with ⟨rfl,rfl,e2⟩|⟨n2,u',hu',e2⟩
   ·exact⟨rfl,rfl⟩
   ·obtain⟨k1,k2,k3⟩:=old j u' k b n2 hu' e2;rcases hv b e1 with h1|h1
    ·exact absurd h1 k2
    ·omega
  ·rcases src j u k b hu hb' with ⟨rfl,rfl,e2⟩|⟨n2,u',hu',e2⟩
   ·obtain⟨k1,k2,k3⟩:=old i s' g b n1 hs' e1;rcases hv b e2 with h1|h1
    ·exact absurd h1 k2
    ·omega
   ·exact h.apart i j s' u' g k b hs' hu' e1 e2
 ·intro i s g b hs hb;rcases src i s g b hs hb with ⟨rfl,rfl,e1⟩|⟨n1,s',hs',e1⟩
  ·have:=vb b e1;exact⟨this.1,fun e=>this.2 (dh (e.symm.trans hnb))⟩
  ·exact h.off i s' g b hs' e1
 ·exact aA.setCell (hT.mono fun b _ hb=> .inr (.inr ⟨n,r,f,hr,hb⟩)) (.inl (.inr (.inl hnb))) v'
 ·rintro b (rfl|hb|⟨i,s,g,hs,hb⟩)
  ·exact .inl (.inl rfl)
  ·exact .inl (.inr (.inl hb))
  ·rcases src i s g b hs hb with ⟨rfl,rfl,e1⟩|⟨n1,s',hs',e1⟩
   ·rcases hv b e1 with h1|h1
    ·exact .inl (.inr (.inr ⟨_,r,_,hr,h1⟩))
    ·exact .inr h1
   ·exact .inl (.inr (.inr ⟨i,s',g,hs',e1⟩))
end
section
variable {rs:List Raw} {b M bb:Nat} {x:Nd} {r:Raw} {t:Tr} {nv:Value} {w w1:World}
theorem CR {a0 a1 a2 v:Value} {T:TypeId} {fr:Nat×Nat} (h:w.heap[b]?=some (.cells #[a0,a1,a2] T fr)):(w.setCell (b,0) v).heap[b]?=some (.cells #[v,a1,a2] T fr):=by
 have h:=aM (off:=0) (v:=v) h;simpa using h
structure Kg (M H:Nat) (w:World) (r:Raw) (x:Nd):Prop where
 own:gQ M w r x
 new:∀f b,(r.iQ f).ownBlock=some b->H<=b/\b<w.heap.size
 apart:∀f g b,(r.iQ f).ownBlock=some b->(r.iQ g).ownBlock=some b->f=g
theorem Bd.push {nz:Value} (h:Bd M w bb nv rs t) (hT:aA (fun b=>nv.ownBlock=some b) w w1)
  (hrow:w1.ownsRow M 125 5 nz (rs+1) (rs.flatMap bS++bS r)) (hv:∀b,nz.ownBlock=some b->nv.ownBlock=some b\/w.heap.size<=b)
  (hF:Kg M w w1 r x) (hd:∀f b,(r.iQ f).ownBlock=some b->nz.ownBlock≠some b) :
  Bd M (w1.setCell (bb,0) nz) bb nz (rs++[r]) (kN t x)/\qB (dY bb nv rs) (dY bb nz (rs++[r])) w (w1.setCell (bb,0) nz):=by
 have hbl:=(h.lt bb (.inl rfl)).2;have keep:∀b,b<w.heap.size->nv.ownBlock≠some b->b≠bb->(w1.setCell (bb,0) nz).heap[b]?=w.heap[b]?:=fun b hb h1 h2=>(cH w1 ⟨bb,_,none⟩ b nz h2).trans (hT.block b hb h1);have vb:nz.ownBlock≠some bb:=fun e=>by
  rcases hv bb e with h1|h1
  ·exact h.oN h1
  ·omega
 have hnew:∀f b,(r.iQ f).ownBlock=some b->b≠bb/\w.heap.size<=b:=fun f b hb=>by
  have:=hF.new f b hb;exact⟨fun e=>ai,this.1⟩
 have fE:∀i s,(rs++[r])[i]?=some s->(i=rs.length/\s=r)\/(i<rs.length/\rs[i]?=some s):=fun i s hs=>by
  rcases mA i rs with hi|hi
  ·rw [rE hi]at hs;exact .inr ⟨hi,hs⟩
  ·rw [xw hi]at hs;have hlt:=(dW.1 hs).1;simp only [List.length_singleton]at hlt;have:i=rs:=ai;subst this;simp at hs;exact .inl ⟨rfl,hs.symm⟩
 have old:∀(i:Nat) s f b,rs[i]?=some s->(s.iQ f).ownBlock=some b->b<w.heap.size/\nv.ownBlock≠some b/\b≠bb:=fun i s f b hs hb=>
  ⟨(h.lt b (.inr (.inr ⟨i,s,f,hs,hb⟩))).2,(h.off i s f b hs hb).2,(h.off i s f b hs hb).1⟩
 refine⟨⟨h.low,?_,?_,?_,?_,?_,vb,?_⟩,⟨?_,?_⟩⟩
 ·exact CR ((hT.block bb hbl h.oN).trans h.box)
 ·rw [dF,pK];refine bJ (w:=w1) (by simpa using hrow) fun b hb=>cH w1 ⟨bb,_,none⟩ b nz (fun e=>vb (by rw [e]at hb;exact hb))
 ·rw [dF,Ns,h.len];rfl
 ·intro i s y hs hy;rcases fE i s hs with ⟨rfl,rfl⟩|⟨hi,hs⟩
  ·have:(kN t x).nodes[rs.length]?=some x:=by rw [h.len];simp [kN]
   obtain rfl:=dh (this.symm.trans hy);exact hF.own.block fun f b hb=>cH w1 ⟨bb,_,none⟩ b nz (hnew f b hb).1
  ·have hy':t.nodes[i]?=some y:=by
    rw [<-hy];exact(rE (by rw [<-h.len];exact hi)).symm
   exact(h.uz i s y hs hy').block fun f b hb=>by
    obtain⟨k1,k2,k3⟩:=old i s f b hs hb;exact keep b k1 k2 k3
 ·intro i j s u f g b hs hu hb hb';rcases fE i s hs with ⟨rfl,rfl⟩|⟨hi,hs2⟩
  ·rcases fE j u hu with ⟨rfl,rfl⟩|⟨hj,hu2⟩
   ·exact⟨rfl,hF.apart f g b hb hb'⟩
   ·have:=(old j u g b hu2 hb').1;have:=(hnew f b hb).2;omega
  ·rcases fE j u hu with ⟨rfl,rfl⟩|⟨hj,hu2⟩
   ·have:=(old i s f b hs2 hb).1;have:=(hnew g b hb').2;omega
   ·exact h.apart i j s u f g b hs2 hu2 hb hb'
 ·intro i s f b hs hb;rcases fE i s hs with ⟨rfl,rfl⟩|⟨hi,hs⟩
  ·exact⟨(hnew f b hb).1,hd f b hb⟩
  ·obtain⟨k1,k2,k3⟩:=old i s f b hs hb;exact⟨k3,fun e=>(hv b e).elim k2 ai⟩
 ·exact aA.setCell (hT.mono fun b _ hb=> .inr (.inl hb)) (.inl (.inl rfl)) nz
 ·rintro b (rfl|hb|⟨i,s,f,hs,hb⟩)
  ·exact .inl (.inl rfl)
  ·exact(hv b hb).imp (fun h=> .inr (.inl h)) id
  ·rcases fE i s hs with ⟨rfl,rfl⟩|⟨hi,hs⟩
   ·exact .inr (hnew f b hb).2
   ·exact .inl (.inr (.inr ⟨i,s,f,hs,hb⟩))
theorem nN {g i:Nat} {v0 v1 v2 v3 v4:Value} (h:b≠g):(((((w.setCell (g,i) v0).setCell (g,i+1) v1).setCell (g,i+2) v2).setCell (g,i+3) v3).setCell (g,i+4) v4).heap[b]?=w.heap[b]?:=by
 rw [cH _ ⟨g,_,none⟩ b _ h,cH _ ⟨g,_,none⟩ b _ h,cH _ ⟨g,_,none⟩ b _ h,cH _ ⟨g,_,none⟩ b _ h,cH _ ⟨g,_,none⟩ b _ h]
theorem Bd.whole {nb cap n:Nat} (h:Bd M w bb nv rs t) (hnv:nv=ah nb rs cap) (hn:n<rs)
  (hT:aq w w1) (hF:Kg M w w1 r x) :
  Bd M (((((w1.setCell (nb,n*5) (.bool r.leaf)).setCell (nb,n*5+1) r.ev).setCell (nb,n*5+2) r.kv).setCell (nb,n*5+3) r.dv).setCell (nb,n*5+4) r.bv) bb nv (rs.set n r) (dz t n x) /\
  qB (dY bb nv rs) (dY bb nv (rs.set n r)) w (((((w1.setCell (nb,n*5) (.bool r.leaf)).setCell (nb,n*5+1) r.ev).setCell (nb,n*5+2) r.kv).setCell (nb,n*5+3) r.dv).setCell (nb,n*5+4) r.bv):=by
 have hnb:nv.ownBlock=some nb:=by rw [hnv];rfl
 have hnl:=(h.lt nb (.inr (.inl hnb))).2;have hbl:=(h.lt bb (.inl rfl)).2;have xj:bb≠nb:=fun e=>h.oN (by rw [e];exact hnb);have keep:∀b,b<w.heap.size->b≠nb->(((((w1.setCell (nb,n*5) (.bool r.leaf)).setCell (nb,n*5+1) r.ev).setCell (nb,n*5+2) r.kv).setCell (nb,n*5+3) r.dv).setCell (nb,n*5+4) r.bv).heap[b]?=w.heap[b]?:=fun b hb h2=>(nN h2).trans (hT.block b hb);have hnew:∀f b,(r.iQ f).ownBlock=some b->b≠bb/\b≠nb/\w.heap.size<=b:=fun f b hb=>by
  have:=hF.new f b hb;exact⟨fun e=>ai,fun e=>ai,this.1⟩
 have fE:∀i s,(rs.set n r)[i]?=some s->(i=n/\s=r)\/(i≠n/\rs[i]?=some s):=fun i s hs=>by
  by_cases hi:i=n
  ·subst hi;rw [List.getElem?_set_self hn]at hs;exact .inl ⟨rfl,(dh hs).symm⟩
  ·rw [zV (Ne.symm hi)]at hs;exact .inr ⟨hi,hs⟩
 have old:∀(i:Nat) s f b,rs[i]?=some s->(s.iQ f).ownBlock=some b->b<w.heap.size/\b≠nb/\b≠bb:=fun i s f b hs hb=>
  ⟨(h.lt b (.inr (.inr ⟨i,s,f,hs,hb⟩))).2,fun e=>(h.off i s f b hs hb).2 (by rw [e];exact hnb),(h.off i s f b hs hb).1⟩
 refine⟨⟨h.low,?_,?_,?_,?_,?_,h.oN,?_⟩,⟨?_,?_⟩⟩
 ·exact(keep bb hbl xj).trans h.box
 ·have h1:w1.ownsRow M 125 5 nv rs (rs.flatMap bS):=bJ h.row fun g hg=>hT.block g (h.row.lt g hg).2;rw [xx];rw [hnv]at h1 ⊢;exact td h1 hn rfl
 ·rw [xx,h.len];exact(jK t n x).symm
 ·intro i s y hs hy;rcases fE i s hs with ⟨rfl,rfl⟩|⟨hi,hs⟩
  ·have:(dz t (i:Int) x).nodes[i]?=some x:=by show (t.nodes.set _ x)[i]?=_;rw [Int.toNat_natCast];exact List.getElem?_set_self (by rw [<-h.len];exact hn)
   obtain rfl:=dh (this.symm.trans hy);exact hF.own.block fun f b hb=>nN (hnew f b hb).2.1
  ·have hy':t.nodes[i]?=some y:=by
    have:(dz t (n:Int) x).nodes[i]?=t.nodes[i]?:=(by simp [dz,zV (Ne.symm hi)]);rw [<-this];exact hy
   exact(h.uz i s y hs hy').block fun f b hb=>by
    obtain⟨k1,k2,k3⟩:=old i s f b hs hb;exact keep b k1 k2
 ·intro i j s u f g b hs hu hb hb';rcases fE i s hs with ⟨rfl,rfl⟩|⟨hi,hs2⟩
  ·rcases fE j u hu with ⟨rfl,rfl⟩|⟨hj,hu2⟩
   ·exact⟨rfl,hF.apart f g b hb hb'⟩
   ·have:=(old j u g b hu2 hb').1;have:=(hnew f b hb).2.2;omega
  ·rcases fE j u hu with ⟨rfl,rfl⟩|⟨hj,hu2⟩
   ·have:=(old i s f b hs2 hb).1;have:=(hnew g b hb').2.2;omega
   ·exact h.apart i j s u f g b hs2 hu2 hb hb'
 ·intro i s f b hs hb;rcases fE i s hs with ⟨rfl,rfl⟩|⟨hi,hs⟩
  ·exact⟨(hnew f b hb).1,fun e=>(hnew f b hb).2.1 (dh (e.symm.trans hnb))⟩
  ·exact h.off i s f b hs hb
 ·have hX:dY bb nv rs nb:= .inr (.inl hnb);exact aA.setCell (aA.setCell (aA.setCell (aA.setCell (aA.setCell (aA.of hT aO) (.inl hX) _) (.inl hX) _) (.inl hX) _) (.inl hX) _) (.inl hX) _
 ·rintro b (rfl|hb|⟨i,s,f,hs,hb⟩)
  ·exact .inl (.inl rfl)
  ·exact .inl (.inr (.inl hb))
  ·rcases fE i s hs with ⟨rfl,rfl⟩|⟨hi,hs⟩
   ·exact .inr (hnew f b hb).2.2
   ·exact .inl (.inr (.inr ⟨i,s,f,hs,hb⟩))
theorem Bd.place (h:Bd M w bb nv rs t) {n:Int} (hx:t.dm n=some x) :
  ∃(k nb cap:Nat) (r:Raw),n=(k:Int)/\nv=ah nb rs cap/\rs[k]?=some r/\t.nodes[k]?=some x/\k<rs/\gQ M w r x:=by
 unfold Tr.dm at hx
 split at hx
 ·rename_i h0
  have hlt:=(dW.1 hx).1;rw [<-h.len]at hlt;obtain⟨hl,⟨rfl,h0'⟩|⟨g,cap,cur,hv,_⟩⟩:=h.row
  ·omega
  ·refine⟨n.toNat,g,cap,rs[n.toNat],ai,hv,oZ hlt,hx,hlt,h.uz _ _ _ (oZ hlt) hx⟩
 ·cases hx
theorem Bd.cells {nb cap k:Nat} (h:Bd M w bb (ah nb rs cap) rs t) (hr:rs[k]?=some r) :
  w.cell? (bb,0)=some (ah nb rs cap)/\w.cell? (nb,k*5)=some (.bool r.leaf)/\w.cell? (nb,k*5+1)=some r.ev/\w.cell? (nb,k*5+2)=some r.kv /\
  w.cell? (nb,k*5+3)=some r.dv/\w.cell? (nb,k*5+4)=some r.bv/\(∀o,w.frozen? ⟨nb,o,none⟩=false)/\(∀o,w.frozen? ⟨bb,o,none⟩=false)/\bb<w/\nb<w/\bb≠nb:=by
 obtain⟨hk,rfl⟩:=dW.1 hr;obtain⟨c0,c1,c2,c3,c4,cf⟩:=vF h.row rfl hk;exact⟨by simp [World.cell?,h.box],c0,c1,c2,c3,c4,cf,fun o=>by simp [World.frozen?,h.box],(h.lt bb (.inl rfl)).2,(h.lt nb (.inr (.inl rfl))).2,fun e=>h.oN (by rw [e];rfl)⟩
theorem Bd.nodes (h:Bd M w bb nv rs t) (hs:rs.length<=1000000) (hn:∀x∈t.nodes,∀f,x.fN f<=1000000):bn w nv t.nodes:=by
 refine⟨rs,ct.owned fR h.row rfl ai,h.len,fun i r x hr hx=>?_⟩;have o:=h.uz i r x hr hx;have hm:=hn x (uO hx);exact⟨o.leaf,ct.owned cO (o.row 0) rfl (by have:x.aI.length<=_:=hm 0;omega),ct.owned fS (o.row 1) rfl (by have:x.keys.length<=_:=hm 1;omega),
  ct.owned fS (o.row 2) rfl (by have:x.kids.length<=_:=hm 2;omega),ct.owned cO (o.row 3) rfl (by have:x.buf.length<=_:=hm 3;omega)⟩
end
section
variable {n:Nat} {x:Nd} {r:Raw}
structure Fs (M:Nat) (w:World) (rs:List Raw) (xs:List Nd):Prop where
 len:rs=xs.length
 uz:∀(i:Nat) r x,rs[i]?=some r->xs[i]?=some x->gQ M w r x
 apart:∀(i j:Nat) r s f g b,rs[i]?=some r->rs[j]?=some s->(r.iQ f).ownBlock=some b->(s.iQ g).ownBlock=some b->i=j/\f=g
def Fb (rs:List Raw) (b:Nat):Prop:=∃(i:Nat) (r:Raw) (f:Nat),rs[i]?=some r/\(r.iQ f).ownBlock=some b
section
variable {M:Nat} {w w':World} {rs rs':List Raw} {xs xs':List Nd}
theorem Fs.lt (h:Fs M w rs xs):∀b,Fb rs b->M<=b/\b<w.heap.size:=by
 rintro b ⟨i,r,f,hr,hb⟩;have hi:=(dW.1 hr).1;have hx:xs[i]?=some (xs[i]'(by rw [<-h.len];exact hi)):=bh;exact((h.uz i r _ hr hx).row f).lt b hb
theorem Fs.world (h:Fs M w rs xs) (hb:∀b,Fb rs b->w'.heap[b]?=w.heap[b]?):Fs M w' rs xs:=
 ⟨h.len,fun i r x hr hx=>(h.uz i r x hr hx).block fun f g hg=>hb g ⟨i,r,f,hr,hg⟩,h.apart⟩
theorem Fs.below {B:Nat} (h:Fs M w rs xs) (hb:Below B w w') (hB:w<=B):Fs M w' rs xs:=h.world fun b hf=>hb.block b (by have:=(h.lt b hf).2;omega)
theorem Fs.mono {C:Nat} (h:Fs M w rs xs) (hC:C<=M):Fs C w rs xs:=⟨h.len,fun i r x hr hx=>⟨(h.uz i r x hr hx).leaf,fun f=>cF ((h.uz i r x hr hx).row f) hC⟩,h.apart⟩
theorem Fs.nil:Fs M w [] []:=⟨rfl,fun i r x hr=>by simp at hr,fun i j r s f g b hr=>by simp at hr⟩
theorem Fs.one (h:gQ M w r x) (ha:∀f g b,(r.iQ f).ownBlock=some b->(r.iQ g).ownBlock=some b->f=g):Fs M w [r] [x]:=by
 have h0:∀{α:Type} {i:Nat} {a b:α},[a][i]?=some b->i=0/\a=b:=fun {α i a b} h=>by
  cases i with
  |zero=>exact⟨rfl,by simpa using h⟩
  |succ i=>simp at h
 refine⟨rfl,fun i s y hs hy=>?_,fun i j s t f g b hs ht hb hb'=>?_⟩
 ·obtain⟨-,rfl⟩:=h0 hs;obtain⟨-,rfl⟩:=h0 hy;exact h
 ·obtain⟨rfl,rfl⟩:=h0 hs;obtain⟨rfl,rfl⟩:=h0 ht;exact⟨rfl,ha f g b hb hb'⟩
theorem Fs.app (h:Fs M w rs xs) (h':Fs M w rs' xs') (hd:∀b,Fb rs b->Fb rs' b->False):Fs M w (rs++rs') (xs++xs'):=by
 have src:∀{i:Nat} {r:Raw},(rs++rs')[i]?=some r->(i<rs/\rs[i]?=some r)\/(rs<=i/\rs'[i-rs.length]?=some r):=fun {i r} hr=>by
  by_cases hi:i<rs
  ·rw [rE hi]at hr;exact .inl ⟨hi,hr⟩
  ·rw [xw ai]at hr;exact .inr ⟨ai,hr⟩
 refine⟨by simp [h.len,h'.len],fun i r x hr hx=>?_,fun i j r s f g b hr hs hb hb'=>?_⟩
 ·rcases src hr with ⟨hi,hr⟩|⟨hi,hr⟩
  ·rw [rE (by rw [<-h.len];exact hi)]at hx;exact h.uz i r x hr hx
  ·rw [xw (by rw [<-h.len];exact hi),<-h.len]at hx;exact h'.uz _ r x hr hx
 ·rcases src hr with ⟨hi,hr⟩|⟨hi,hr⟩
  ·rcases src hs with ⟨hj,hs⟩|⟨hj,hs⟩
   ·exact h.apart i j r s f g b hr hs hb hb'
   ·exact(hd b ⟨i,r,f,hr,hb⟩ ⟨_,s,g,hs,hb'⟩).elim
  ·rcases src hs with ⟨hj,hs⟩|⟨hj,hs⟩
   ·exact(hd b ⟨j,s,g,hs,hb'⟩ ⟨_,r,f,hr,hb⟩).elim
   ·have:=h'.apart _ _ r s f g b hr hs hb hb';exact⟨ai,this.2⟩
theorem Fs.field {f:Nat} {x':Nd} {v':Value} (h:Fs M w rs xs) (hr:rs[n]?=some r) (hx:xs[n]?=some x) (hf:f<4)
  (hT:∀b,Fb rs b->(r.iQ f).ownBlock≠some b->w'.heap[b]?=w.heap[b]?) (hown:w'.ownsRow M (fTy f) (fK f) v' (x'.fN f) (x'.fC f)) (hv:∀b,v'.ownBlock=some b->(r.iQ f).ownBlock=some b\/w.heap.size<=b)
  (hl:x'.leaf=x.leaf) (ho:∀g,g≠f->x'.fN g=x.fN g/\x'.fC g=x.fC g):Fs M w' (rs.set n (r.kR f v')) (xs.set n x'):=by
 have hn:=(dW.1 hr).1;have fE:∀i s,(rs.set n (r.kR f v'))[i]?=some s->(i=n/\s=r.kR f v')\/(i≠n/\rs[i]?=some s):=fun i s hs=>by
  by_cases hi:i=n
  ·subst hi;rw [List.getElem?_set_self hn]at hs;exact .inl ⟨rfl,(dh hs).symm⟩
  ·rw [zV (Ne.symm hi)]at hs;exact .inr ⟨hi,hs⟩
 have src:∀i s g b,(rs.set n (r.kR f v'))[i]?=some s->(s.iQ g).ownBlock=some b->(i=n/\g=f/\v'.ownBlock=some b)\/(¬(i=n/\g=f)/\∃s',rs[i]?=some s'/\(s'.iQ g).ownBlock=some b):=fun i s g b hs hb=>by
  rcases fE i s hs with ⟨rfl,rfl⟩|⟨hi,hs⟩
  ·by_cases hg:g=f
   ·subst hg;rw [Raw.pO _ hf]at hb;exact .inl ⟨rfl,rfl,hb⟩
   ·rw [Raw.vw _ hf _ hg]at hb;exact .inr ⟨fun h=>hg h.2,r,hr,hb⟩
  ·exact .inr ⟨fun h=>hi h.1,s,hs,hb⟩
 have old:∀i s g b,¬(i=n/\g=f)->rs[i]?=some s->(s.iQ g).ownBlock=some b->b<w.heap.size/\(r.iQ f).ownBlock≠some b:=fun i s g b hne hs hb=>
  ⟨(h.lt b ⟨i,s,g,hs,hb⟩).2,fun e=>hne (h.apart i n s r g f b hs hr hb e)⟩
 refine⟨by simp [h.len],fun i s y hs hy=>?_,fun i j s u g k b hs hu hb hb'=>?_⟩
 ·by_cases hi:i=n
  ·subst hi;rw [List.getElem?_set_self (by rw [<-h.len];exact hn)]at hy;obtain rfl:=dh hy;rw [List.getElem?_set_self hn]at hs;obtain rfl:=dh hs;refine⟨by rw [Raw.EH,hl];exact(h.uz i r x hr hx).leaf,fun g=>?_⟩;by_cases hg:g=f
   ·subst hg;rw [Raw.pO _ hf];exact hown
   ·rw [Raw.vw _ hf _ hg,(ho g hg).1,(ho g hg).2];exact bJ ((h.uz i r x hr hx).row g) fun b hb=>hT b ⟨i,r,g,hr,hb⟩ (old i r g b (fun hh=>hg hh.2) hr hb).2
  ·rw [zV (Ne.symm hi)]at hs hy;exact(h.uz i s y hs hy).block fun g b hb=>hT b ⟨i,s,g,hs,hb⟩ (old i s g b (fun hh=>hi hh.1) hs hb).2
 ·rcases src i s g b hs hb with ⟨rfl,rfl,e1⟩|⟨n1,s',hs',e1⟩
  ·rcases src j u k b hu hb' with ⟨rfl,rfl,e2⟩|⟨n2,u',hu',e2⟩
   ·exact⟨rfl,rfl⟩
   ·obtain⟨k1,k2⟩:=old j u' k b n2 hu' e2;rcases hv b e1 with h1|h1
    ·exact absurd h1 k2
    ·omega
  ·rcases src j u k b hu hb' with ⟨rfl,rfl,e2⟩|⟨n2,u',hu',e2⟩
   ·obtain⟨k1,k2⟩:=old i s' g b n1 hs' e1;rcases hv b e2 with h1|h1
    ·exact absurd h1 k2
    ·omega
   ·exact h.apart i j s' u' g k b hs' hu' e1 e2
theorem Fs.kid {m:Nat} (h:Fs M w rs xs) (hr:rs[n]?=some r) (hx:xs[n]?=some x) (hm:m<x.kids.length) :
  ∃kb cap,r.dv = .slice (some ⟨kb,0,none⟩) x.kids.length cap/\M<=kb/\kb<w.heap.size/\Fb rs kb/\w.cell? ⟨kb,m,none⟩=some (.int .i64 x.kids[m])/\(∀o,w.frozen? ⟨kb,o,none⟩=false) /\
   ∀c,Fs M (w.setCell ⟨kb,m,none⟩ (.int .i64 c)) rs (xs.set n { x with kids:=x.kids.set m c }):=by
 have h2:w.ownsRow M 3 1 r.dv x.kids.length (x.kids.flatMap bP):=(h.uz n r x hr hx).row 2;have hlt:=h2.lt;obtain⟨hl,⟨hv,h0⟩|⟨g,cap,cur,hv,hB,hg,h3,h4,h5,h6⟩⟩:=id h2
 ·omega
 ·have ni:r.dv.ownBlock=some g:=by rw [hv];rfl
  have TG:Fb rs g:=⟨n,r,2,hr,ni⟩;have hmc:cur[m]?=some (.int .i64 x.kids[m]):=by
   have e1:(cur.toList.take (x.kids.length*1))[m]?=(x.kids.flatMap bP)[m]?:=by rw [h6]
   rw [List.getElem?_take_of_lt ai]at e1;have e2:x.kids.flatMap bP=x.kids.map (Value.int .i64):=by
    have:∀l:List Int,l.flatMap bP=l.map (Value.int .i64):=(by intro l;induction l with|nil=>rfl|cons a l ih=>rw [fO,ih];rfl);exact this _
   rw [e2,List.getElem?_map,oZ hm]at e1;rw [<-Array.getElem?_toList,e1];rfl
  refine⟨g,cap,hv,hB,(hlt g ni).2,TG,by simp [World.cell?,hg,hmc],fun o=>by simp [World.frozen?,hg],fun c=>?_⟩;have e3:rs.set n (r.kR 2 r.dv)=rs:=by
   obtain⟨hn,e⟩:=dW.1 hr;have:r.kR 2 r.dv=rs[n]:=by rw [e];rfl
   rw [this];exact List.set_getElem_self hn
  have hown:(w.setCell ⟨g,m,none⟩ (.int .i64 c)).ownsRow M 3 1 r.dv (x.kids.set m c).length ((x.kids.set m c).flatMap bP):=by
   refine⟨(by have e:∀l:List Int,(l.flatMap bP).length=l.length*1:=by { intro l;induction l with|nil=>rfl|cons a l ih=>rw [fO,dF,ih,gD];simp [bP];omega };exact e _), .inr ⟨g,cap,_,by rw [xx];exact hv,hB,aM hg,by rw [xx];exact h3,h4,by simp [h5],?_⟩⟩;have e:∀l:List Int,l.flatMap bP=l.map (Value.int .i64):=by intro l;induction l with|nil=>rfl|cons a l ih=>rw [fO,ih];rfl
   rw [xx,Array.toList_setIfInBounds,List.take_set,h6,e,e,List.map_set]
  have:=h.field (w':=w.setCell ⟨g,m,none⟩ (.int .i64 c)) (x':={ x with kids:=x.kids.set m c }) (v':=r.dv) hr hx (show 2<4 by decide) (fun b _ hb=>cH w ⟨g,_,none⟩ b _ fun e=>hb (by rw [e];exact ni)) hown (fun b hb=> .inl hb) rfl fun k hk=>by
   rcases mA k 4 with h4|h4
   ·rcases xg h4 with rfl|rfl|rfl|rfl
    ·exact⟨rfl,rfl⟩
    ·exact⟨rfl,rfl⟩
    ·exact absurd rfl hk
    ·exact⟨rfl,rfl⟩
   ·obtain⟨q,rfl⟩:∃q,k=q+4:=⟨k-4,ai⟩;exact⟨rfl,rfl⟩
  rw [e3]at this;exact this
theorem Fs.XD (h:Fs M w rs xs) (hs:∀x∈xs,x.aI.length*56<=140737488351232/\x.keys.length*8<=140737488351232/\x.kids.length*8<=140737488351232/\x.buf.length*56<=140737488351232):xC w rs xs:=by
 refine⟨h.len,fun i r x hr hx=>?_⟩;obtain⟨s1,s2,s3,s4⟩:=hs x (uO hx);have ho:=h.uz i r x hr hx;exact⟨ho.leaf,ct.owned cO (ho.row 0) rfl s1,ct.owned fS (ho.row 1) rfl s2,ct.owned fS (ho.row 2) rfl s3,ct.owned cO (ho.row 3) rfl s4⟩
end
end
end Go.Proofs.YtmljjfhgciaceaaGreatDoor
