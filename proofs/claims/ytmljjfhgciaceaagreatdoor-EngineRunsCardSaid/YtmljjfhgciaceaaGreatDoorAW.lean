/- Lemmas of the proof. -/
import Derived.Test.YtmljjfhgciaceaaGreatDoorHd
import Derived.Test.YtmljjfhgciaceaaGreatDoorCz
import Derived.Test.YtmljjfhgciaceaaGreatDoorMerged
import Derived.Test.YtmljjfhgciaceaaGreatDoorPA
import Derived.Test.YtmljjfhgciaceaaGreatDoorKG
import Derived.Laws.OwnMore
import Derived.Test.YtmljjfhgciaceaaGreatDoorNC
import Derived.BigQuiet
import Derived.Deep.QuietTactic
import Derived.Deep.CutBlock
import Derived.Deep.RegionHeld3
import Derived.Test.YtmljjfhgciaceaaGreatDoorSX
import Derived.Laws.EntriesVeiled
set_option maxRecDepth 100000
set_option maxHeartbeats 6000000
namespace Go.Proofs.YtmljjfhgciaceaaGreatDoor
open Go.RowKit
section
variable {B ob b:Nat} {w w' w0:World}
theorem AZ {v vx:Value} {es xs:List aH} (ho:ay B w v es) (hx:cX w vx xs) (h1:es+xs.length<=1000000) (hB:B<=w) (ty:TypeId) :
  ∃v' w',(Builtin.append_ #[35,35] ty #[v,vx]).run Tryz.prog w = .ok v' w'/\ay B w' v' (es++xs)/\w.grownBy w' v.ownBlock/\(v'.ownBlock=v.ownBlock\/v'.ownBlock=some w.heap.size):=by
 obtain⟨i0,z,hi0,hz,hz1,hz2,hz3⟩:=cG Tryz.IU;have h:=hx;obtain⟨ao,cap,rfl,a1,a2,a3,a4,a5⟩:=hx
 cases ao with
 |none=>
  have h0:xs.length=0:=by have:=a4 rfl;omega
  obtain rfl:=yX h0;obtain rfl:cap=0:=a4 rfl;refine⟨v,w,run_append_owned_none w B 35 ty 107 i0 7 Tryz.underlying35 hi0 v es _ ho.row,by simpa using ho,⟨rfl,rfl,rfl,nu _,fun _ _ _=>rfl⟩, .inl rfl⟩
 |some ad=>
  obtain⟨_,g1,g2⟩:=h.news cO;obtain⟨v',w',hr,h2,h3,_,h5⟩:=run_append_own_at (P:=Tryz.prog) w B 35 ty 107 i0 z 7 56 Tryz.underlying35 hi0 hz hz1 hz2 hz3 bY v es _ ho.row ad xs cap (xs.flatMap bu) g1 g2 (iW xs) iI ai hB;refine⟨v',w',hr,⟨?_⟩,h3,h5⟩;rw [pK,dF];exact h2
theorem AV {P:Program} {ops:Array Oper} {o:Oper} {a:Act} {K:Act->World->Prop} {Q:Exit->Act->World->Prop} {E:Prop}
  (hg:o.guard=none) (d x:Operand) (dT sT:TypeId) (hop:o.op=Op.call { callee:=Callee.builtin Builtin.append,args:=#[d,x],argTypes:=#[dT,sT] })
  (v u:Value) (hd:a.eval d=v) (hx:a.eval x=u) {v':Value} (hr:(Builtin.append_ #[dT,sT] o.type #[v,u]).run P w = .ok v' w') (hK:K (a.put o.dst v') w') :
  if Region.wanted o (yielded ops a.tmps)=true then Oper.wp P o a w K Q else E:=by
 have hw:Region.wanted o (yielded ops a.tmps)=true:=by simp [Region.wanted,hg]
 rw [aw hw];unfold Oper.wp execOp;simp only [hop,resolve,invoke,builtin,Sem.run_bind,Sem.run_pure,Result.andThen_ok,List.map_toArray,List.map_cons,List.map_nil,hd,hx,hr];exact hK
structure mj (w0:World) (ob:Nat) (tv:Value) (root lo hi:Int) (w:World) (st:Option (List aH)):Prop where
 below:aq w0 w
 lt:w0+2<ob
 size:ob+2<w
 box:w.heap[w0.heap.size]?=some (.cells #[tv,af root] 27)
 low:w.heap[w0.heap.size+1]?=some (.cells #[af lo] 3)
 high:w.heap[w0.heap.size+2]?=some (.cells #[af hi] 3)
 err:w.heap[ob+1]?=some (.cells #[af (if st.isSome then 0 else 1)] 31)
 walk:w.heap[ob+2]?=some (.cells #[.func (.func 110) #[] #[.pointer (some (w0,0)), .pointer (some (w0,1,0)), .pointer (some (w0,2,0)), .pointer (some (ob+1,0)), .pointer (some (ob,0)), .pointer (some (ob+2,0))]] 168)
 out:∃v,w.heap[ob]?=some (.cells #[v] 35)/\(∀b,v.ownBlock=some b->ob+2<b/\b<w.heap.size)/\∀es,st=some es->ay (ob+3) w v es
def mV (ob:Nat) (w:World) (b:Nat):Prop:=∃v,w.heap[ob]?=some (.cells #[v] 35)/\v.ownBlock=some b
structure fe (ob:Nat) (w w':World):Prop where
 turn:aA (fun b=>b=ob\/b=ob+1\/mV ob w b) w w'
 row:∀b,mV ob w' b->mV ob w b\/w.heap.size<=b
theorem fe.refl (ob:Nat) (w:World):fe ob w w:=⟨aA.refl _ _,fun _ h=> .inl h⟩
theorem fe.trans {a b c:World} (h:fe ob a b) (k:fe ob b c):fe ob a c:=by
 refine⟨h.turn.trans' k.turn fun i hi hx=>?_,fun i hi=>?_⟩
 ·rcases hx with hx|hx|hx
  ·exact .inl hx
  ·exact .inr (.inl hx)
  ·rcases h.row i hx with h1|h1
   ·exact .inr (.inr h1)
   ·omega
 ·have:=h.turn.size;rcases k.row i hi with h1|h1
  ·rcases h.row i h1 with h2|h2
   ·exact .inl h2
   ·exact .inr h2
  ·exact .inr ai
theorem fe.of (h:Below B w w') (hB:w<=B) (ni:ob<w):fe ob w w':=
 ⟨aA.of h hB,fun b ⟨v,h1,h2⟩=> .inl ⟨v,(h.block ob ai).symm.trans h1,h2⟩⟩
theorem mj.later {tv:Value} {root lo hi:Int} {st:Option (List aH)} (h:mj w0 ob tv root lo hi w st) {C:Nat} (hb:Below C w w') (hC:w<=C):mj w0 ob tv root lo hi w' st:=by
 have hs:=h.size;have hl:=h.lt;have hz:=hb.size;obtain⟨v,o1,o2,o3⟩:=h.out;have g:∀b,b<w.heap.size->w'.heap[b]?=w.heap[b]?:=fun b hlt=>hb.block b ai;exact⟨aF h.below (hb.mono hC) h.below.size,hl,ai,(g _ ai).trans h.box,(g _ ai).trans h.low,(g _ ai).trans h.high,(g _ ai).trans h.err,(g _ ai).trans h.walk,v,(g _ ai).trans o1,fun b hb=>⟨(o2 b hb).1,oI (o2 b hb).2 hz⟩,fun es he=>(o3 es he).below hb hC⟩
theorem mj.row {tv:Value} {root lo hi:Int} {st:Option (List aH)} (h:mj w0 ob tv root lo hi w st) (hb:mV ob w b):ob+2<b/\b<w:=by
 obtain⟨v,o1,o2,_⟩:=h.out;obtain⟨u,h1,h2⟩:=hb;rw [o1]at h1;obtain rfl:v=u:=by simpa using h1
 exact o2 b h2
theorem fe.stay (h:fe ob w w') (hb:b<w) (h1:b≠ob) (h2:b≠ob+1) (h3:¬mV ob w b):w'.heap[b]?=w.heap[b]?:=
 h.turn.block b hb (fun hx=>by rcases hx with hx|hx|hx;exact h1 hx;exact h2 hx;exact h3 hx)
end
section
variable {n a b:Int} {l:List Int} {f h:Nat} {t:Tr}
theorem Qr (hv:nU t (f+1) n a b=some (l,h)):n∈l:=by
 obtain⟨x,hx⟩:=BL hv;obtain⟨_,⟨_,_,rfl,_⟩|⟨_,_,l',h',_,rfl,_⟩⟩:=nC hv hx <;> simp
theorem Ur {x:Nd} (hv:nU t (f+1) n a b=some (l,h)) (hx:t.dm n=some x):x.buf+x.aI.length<=14:=by
 have:=Ey hv n (Qr hv);have hof:t.of n=x.aI++x.buf:=by unfold Tr.of;rw [hx]
 rw [hof,dF]at this;omega
theorem E5 {w:World} {b:Nat} {u v:Value} {T:TypeId} {fr:Nat×Nat} (h:w.heap[b]?=some (.cells #[u] T fr)):(w.setCell (b,0) v).heap[b]?=some (.cells #[v] T fr):=by
 have:=aM (off:=0) (v:=v) h;simpa using this
theorem mj.stored {w0:World} {ob:Nat} {tv:Value} {root lo hi:Int} {wr w':World} {st st':Option (List aH)} (h:mj w0 ob tv root lo hi wr st) {v v':Value} {E:Int}
  (hv:wr.heap[ob]?=some (.cells #[v] 35)) (hT:aA (fun b=>v.ownBlock=some b) wr w') (hv':∀b,v'.ownBlock=some b->v.ownBlock=some b\/wr.heap.size<=b) (hE:E=if st'.isSome then 0 else 1) (hlt':∀b,v'.ownBlock=some b->b<w'.heap.size)
  (hO:∀es,st'=some es->ay (ob+3) w' v' es) :
  mj w0 ob tv root lo hi ((w'.setCell (ob,0) v').setCell (ob+1,0) (af E)) st'/\fe ob wr ((w'.setCell (ob,0) v').setCell (ob+1,0) (af E)) /\
   ∀b,mV ob ((w'.setCell (ob,0) v').setCell (ob+1,0) (af E)) b->v.ownBlock=some b\/wr.heap.size<=b:=by
 have hl:=h.lt;have hz:=h.size;have hb:=h.below.size;have hT1:=hT.size;obtain⟨u,o1,o2,o3⟩:=h.out;obtain rfl:u=v:=by rw [hv]at o1;simpa using o1.symm
 have g:∀b,b<wr.heap.size->b<=ob+2->w'.heap[b]?=wr.heap[b]?:=fun b hb1 hb2=>hT.block b hb1 (fun hx=>by have:=(o2 b hx).1;omega);have g2:∀b,b≠ob->b≠ob+1->((w'.setCell (ob,0) v').setCell (ob+1,0) (af E)).heap[b]?=w'.heap[b]?:=fun b h1 h2=>by
  rw [xy _ _ _ _ (by show b≠ob+1;exact h2),xy _ _ _ _ (by show b≠ob;exact h1)]
 have hout:((w'.setCell (ob,0) v').setCell (ob+1,0) (af E)).heap[ob]?=some (.cells #[v'] 35):=by
  rw [xy _ _ _ _ (by show ob≠ob+1;omega)];exact E5 ((g ob ai ai).trans hv)
 have hrow:∀b,mV ob ((w'.setCell (ob,0) v').setCell (ob+1,0) (af E)) b->u.ownBlock=some b\/wr.heap.size<=b:=fun b ⟨x,hx1,hx2⟩=>by
  rw [hout]at hx1;obtain rfl:v'=x:=by simpa using hx1
  exact hv' b hx2
 refine⟨⟨?_,hl,by simp;omega,?_,?_,?_,?_,?_,v',hout,fun b hb'=>⟨?_,by simp;exact hlt' b hb'⟩,fun es he=>?_⟩,⟨⟨?_,?_,?_,by simp;exact hT1,fun b hb1 hx=>?_⟩,fun b hb'=>?_⟩,hrow⟩
 ·have h1:aq w0 w':=hT.below h.below hb (fun i hi=>by have:=(o2 i hi).1;omega);exact(h1.setCell (by show w0<=ob;omega) _).setCell (by show w0<=ob+1;omega) _
 ·rw [g2 _ ai ai,g _ ai ai];exact h.box
 ·rw [g2 _ ai ai,g _ ai ai];exact h.low
 ·rw [g2 _ ai ai,g _ ai ai];exact h.high
 ·rw [hE];refine E5 (u:=af (if st.isSome then 0 else 1)) ?_;rw [xy _ _ _ _ (by show ob+1≠ob;omega),g _ ai ai];exact h.err
 ·rw [g2 _ ai ai,g _ ai ai];exact h.walk
 ·rcases hv' b hb' with h1|h1
  ·exact(o2 b h1).1
  ·omega
 ·exact(hO es he).block fun b hb'=>g2 b (by rcases hv' b hb' with h1|h1;have:=(o2 b h1).1;omega;omega) (by rcases hv' b hb' with h1|h1;have:=(o2 b h1).1;omega;omega)
 ·exact hT.os
 ·exact hT.tape
 ·exact hT.output
 ·rw [g2 b (fun e=>hx (.inl e)) (fun e=>hx (.inr (.inl e)))];exact hT.block b hb1 (fun e=>hx (.inr (.inr ⟨u,hv,e⟩)))
 ·rcases hrow b hb' with h1|h1
  ·exact .inl ⟨u,hv,h1⟩
  ·exact .inr h1
end
section
variable {lo hi:Int} {go:Int->List aH} {m ob nb:Nat} {x:Nd} {bo:Option Obj} {w0 w wr w':World}
theorem Ah {go:Int->Int->Int->Option (List Int×Nat)} {x:Nd} {a b:Int}:∀{ks:List Int} {i:Nat} {l:List Int} {h:Nat},cu go x a b ks i=some (l,h)->∀(m:Nat) (K:Int),ks[m]?=some K->∃a' b' l' h',go K a' b'=some (l',h')
 |[],_,_,_,_=>fun _ _ hm=>by simp at hm
 |k::ks,i,l,h,hv=>by
  unfold cu at hv
  split at hv
  ·split at hv
   ·rename_i l1 h1 l2 h2 e1 e2
    intro m K hm
    cases m with
    |zero=>simp only [List.getElem?_cons_zero,iJ]at hm;subst hm;exact⟨_,_,_,_,e1⟩
    |succ m=>exact Ah e2 m K (by simpa using hm)
   ·cases hv
  ·cases hv
theorem Oc {t:Tr} {f:Nat} {n a b:Int} {l:List Int} {h:Nat} (hv:nU t (f+1) n a b=some (l,h)) (hx:t.dm n=some x) :
  x.kids.length<=4/\(x.kids≠[]->x.keys+1=x.kids.length)/\∀(m:Nat) (K:Int),x.kids[m]?=some K->∃a' b' l' h',nU t f K a' b'=some (l',h'):=by
 obtain⟨_,⟨_,hl,_,_⟩|⟨_,hi,l',h',hk,_,_⟩⟩:=nC hv hx
 ·obtain⟨_,h2,_⟩:=hl;rw [h2];exact⟨bh,fun h=>absurd rfl h,fun _ _ hm=>by simp at hm⟩
 ·obtain⟨_,_,h3,h4,_⟩:=hi;exact⟨h3,fun _=>h4,fun m K hm=>Ah hk m K hm⟩
theorem tq {go:Int->List aH} {x:Nd} {lo hi:Int}:∀(ps bs:List Int) (i:Nat),iP go x lo hi (ps++bs) i=iP go x lo hi ps i++iP go x lo hi bs (i+ps)
 |[],bs,i=>by simp [iP]
 |a::ps,bs,i=>by
  rw [List.cons_append,iP,iP,tq ps bs (i+1),iT,gD,show i+(ps.length+1)=i+1+ps from by omega]
theorem Lt {k:Nat} {K:Int} (h:x.kids[k]?=some K) :
  iP go x lo hi (x.kids.take (k+1)) 0=iP go x lo hi (x.kids.take k) 0++(if js x lo hi k then go K else []):=by
 obtain⟨hk,rfl⟩:=dW.1 h;rw [ja hk,tq,iR,gh,Nat.min_eq_left ai];simp [iP]
theorem Lv (k:Nat):∃R,iP go x lo hi x.kids 0=iP go x lo hi (x.kids.take k) 0++R:=
 ⟨_,by rw [<-tq,rG]⟩
theorem tB (h1:m≠0->∃F,x.keys[m-1]?=some F/\F<hi) (h2:m≠x.keys->∃T,x.keys[m]?=some T/\lo<T):js x lo hi m=true:=by
 simp only [js,Bool.and_eq_true,Bool.or_eq_true,Du,List.getD_eq_getElem?_getD];refine⟨?_,?_⟩
 ·by_cases h:m=0
  ·exact .inl h
  ·obtain⟨F,e,h⟩:=h1 h;rw [e];exact .inr h
 ·by_cases h:m=x.keys
  ·exact .inl h
  ·obtain⟨T,e,h⟩:=h2 h;rw [e];exact .inr h
theorem L4 {F:Int} (h0:m≠0) (h1:x.keys[m-1]?=some F) (h2:¬F<hi):js x lo hi m=false:=by
 simp only [js,List.getD_eq_getElem?_getD,h1];simp [h0,h2]
theorem CX {T:Int} (h1:x.keys[m]?=some T) (h2:¬lo<T):js x lo hi m=false:=by
 have h3:=(dW.1 h1).1;have h4:m≠x.keys:=ai;simp only [js,List.getD_eq_getElem?_getD,h1];simp [h4,h2]
structure Mid (w0:World) (ob:Nat) (tv:Value) (root lo hi:Int) (w:World) (nb:Nat) (bo:Option Obj) (wr:World) (st:Option (List aH)):Prop where
 at_:mj w0 ob tv root lo hi wr st
 turn:fe ob w wr
 node:wr.heap[nb]?=bo
 lt:ob+2<nb/\nb<wr
 row:∀b,mV ob wr b->b≠nb
theorem Mid.next {tv:Value} {root:Int} {st st':Option (List aH)} (h:Mid w0 ob tv root lo hi w nb bo wr st)
  (ha:mj w0 ob tv root lo hi w' st') (ht:fe ob wr w'):Mid w0 ob tv root lo hi w nb bo w' st':=by
 obtain⟨h1,h2,h3,⟨h4,h5⟩,h6⟩:=h;refine⟨ha,h2.trans ht,(ht.stay h5 ai ai (fun hx=>h6 _ hx rfl)).trans h3,⟨h4,by have:=ht.turn.size;omega⟩,fun b hb=>?_⟩;rcases ht.row b hb with h|h
 ·exact h6 b h
 ·omega
theorem Mid.later {tv:Value} {root:Int} {st:Option (List aH)} (h:Mid w0 ob tv root lo hi w nb bo wr st) {C:Nat}
  (hb:Below C wr w') (hC:wr<=C):Mid w0 ob tv root lo hi w nb bo w' st:=
 h.next (h.at_.later hb hC) (fe.of hb hC (by have:=h.at_.size;omega))
theorem Mid.list {tv:Value} {root:Int} {st:Option (List aH)} (_h:Mid w0 ob tv root lo hi w nb bo wr st)
  (ht:fe ob wr w') {B:Nat} {v:Value} {LL:List aH} (hB:ob+2<B) (ho:ay B wr v LL) (hr:∀b,mV ob wr b->v.ownBlock≠some b) :
  ay B w' v LL/\∀b,mV ob w' b->v.ownBlock≠some b:=by
 refine⟨ho.block fun g hg=>ht.stay (ho.lt g hg).2 (by have:=(ho.lt g hg).1;omega) (by have:=(ho.lt g hg).1;omega) (fun hx=>hr g hx hg),fun b hb e=>?_⟩;rcases ht.row b hb with h1|h1
 ·exact hr b h1 e
 ·have:=(ho.lt b e).2;omega
end
theorem Gq {t:Tr} {tv:Value} {w0:World} (hn:bn w0 tv t.nodes) {ob:Nat} {lo hi:Int} {f:Nat}
  (IH:∀(n a b:Int) (l:List Int) (h:Nat) (P:List aH) (w:World),nU t f n a b=some (l,h)->dX (P++iO t lo hi f n)->mj w0 ob tv t.root lo hi w (ft P) ->
   Calls Tryz.prog 110 #[af n, .pointer (some (w0,0)), .pointer (some (w0,1,0)), .pointer (some (w0,2,0)), .pointer (some (ob+1,0)), .pointer (some (ob,0)), .pointer (some (ob+2,0))] w fun e w'=>e = .returned (.tuple #[])/\fe ob w w'/\mj w0 ob tv t.root lo hi w' (ft (P++iO t lo hi f n)))
  {n a b:Int} {l:List Int} {h:Nat} {P:List aH} {w:World} (hv:nU t (f+1) n a b=some (l,h)) (hP:dX (P++iO t lo hi (f+1) n)) (hA:mj w0 ob tv t.root lo hi w (ft P)) :
  Calls Tryz.prog 110 #[af n, .pointer (some (w0,0)), .pointer (some (w0,1,0)), .pointer (some (w0,2,0)), .pointer (some (ob+1,0)), .pointer (some (ob,0)), .pointer (some (ob+2,0))] w fun e w'=>e = .returned (.tuple #[])/\fe ob w w'/\mj w0 ob tv t.root lo hi w' (ft (P++iO t lo hi (f+1) n)):=by
 obtain⟨x,hx⟩:=BL hv;obtain⟨hn0,yu,tT⟩:=pJ hx;obtain⟨j,hj⟩:∃j:Nat,n=j:=⟨n.toNat,ai⟩;subst hj;rw [Int.toNat_natCast]at yu tT;obtain⟨nb,fV,c,ev,kv,dv,bv,rfl,hnb,hE,hK,hD,hB,c0,c1,c2,c3,c4⟩:=lG hn hA.below tT;obtain⟨ae,ne,rfl⟩:=hE.isSlice;obtain⟨ak,nk,rfl⟩:=hK.isSlice;obtain⟨ad,rV,rfl⟩:=hD.isSlice;obtain⟨ab,oN,rfl⟩:=hB.isSlice;have HA:=ag hA;obtain⟨q0,q1⟩:w.cell? (w0,0)=some (ah (some (nb,fV)) t.nodes c)/\(w,w0.heap.size,1,t.root):=by simp [World.cell?,hA.box]
 have hsz:=hA.size;have hlt:=hA.lt;have hbz:=hA.below.size;have n0:nb<w:=ai;have jh:=fun w'=>dU (ab:=nb) (aR:=fV) (n:=t.nodes.length) (cap:=c) (show (j:Int)=((j:Nat):Int) by rfl) yu w';obtain⟨W1,hW1⟩:=cd (w.alloc (.cells #[.bool x.leaf,ah ae x.aI ne,ah ak x.keys nk,ah ad x.kids rV,ah ab x.buf oN] 125));have hb1:aq w W1:=by rw [hW1];exact aj
 have k1:W1.heap[w.heap.size]?=some (.cells #[.bool x.leaf,ah ae x.aI ne,ah ak x.keys nk,ah ad x.kids rV,ah ab x.buf oN] 125):=by rw [hW1];exact au _ _ rfl
 have qD:=ag (hA.later hb1 aO);have hz1:W1=w.heap.size+1:=by rw [hW1];simp
 have HE:=ag hE;have HB:=ag hB;have ZR:=ag hK;have HDD:=ag hD;have HV:=ag hv;have HPP:=ag hP;have HXX:=ag hx;have Uh:=ag IH;have hsm:=Ur hv hx;clear hA hE hB hK hD hv hP hx IH;go_enter Tryz.func110,Tryz.ntmps110;go_upto_region 1 with (fail);rw [<-hW1];have HS:=ag fun w' (hb:aq W1 w')=>(by
  have b0:w'.heap[w.heap.size]?=_:=(hb.block _ ai).trans k1;simp [World.cell?,b0]:w'.cell? (w,1)=some (ah ae x.aI ne)/\w'.cell? (w,4)=some (ah ab x.buf oN))
 have Ti:=ag fun w' (hb:aq W1 w')=>(qD.later hb aO).below;have N3:=ag fun w' (hb:aq W1 w')=>fT (HB.below (Ti w' hb) aO);have DG:=ag fun w' (hb:aq W1 w')=>HE.below (Ti w' hb) aO;have b0:aq W1 W1.drew:=(aW _ _).drew;have hs0:=HS _ b0;clear hW1 q0 q1 c0 c1 c2 c3 c4 jh;go_cut [23,24,25] (fun lv ln z wx=>ay W1 wx lv (x.buf++x.aI)/\ln=af ((x.buf++x.aI).length:Nat)/\z=af 0/\aq W1 wx)
 case first=>
  go_region_held3 (fun w'=>w'.cell? (w,1)=some (ah ae x.aI ne)/\w'.cell? (w,4)=some (ah ab x.buf oN))
   (first|with_reducible exact hs0|(with_reducible refine HS.out _ ?_;first|(with_reducible assumption)|exact aj))
   (first
    |(go_at_call 89;(with_reducible refine(N3.out _ b0).mono ?_);rintro e w5 ⟨v5,rfl,wH,cy⟩;have bw5:aq W1 w5:=aF b0 cy aO;obtain⟨v6,w6,hrun,sM,hg6,hl6⟩:=AZ (B:=W1.heap.size) (w:=w5) (es:=x.buf) (xs:=x.aI) ⟨wH⟩ (DG w5 bw5) ai bw5.size 35;have bw6:aq W1 w6:=nP bw5 hg6 bw5.size (fun k hk=>((ay.mk wH).lt k hk).1);obtain⟨s5,c5,rfl⟩:=(ay.mk wH).isSlice;obtain⟨s6,c6,rfl⟩:=sM.isSlice)
    |(refine AV rfl (.tmp 20) (.tmp 22) 35 35 rfl _ _ rfl rfl hrun ?_))
  all_goals
   go_wp2_with fail;go_meet;exact⟨sM,bh,rfl,bw6⟩
 case rest=>
  obtain⟨hol,rfl,rfl,hbl⟩:=hcut;obtain⟨ls,lc,rfl⟩:=hol.isSlice;obtain⟨LL,hLL⟩:=bG (x.buf++x.aI);rw [hLL]at hol;have amT:LL.length<=14:=by rw [<-hLL,dF];exact hsm
  have HLL:=ag hLL;obtain⟨A,hA⟩:=bG (LL.filter (aV lo hi));have HAA:=ag hA;have Uf:=ag (show iO t lo hi (f+1) (j:Int)=A++iP (fun k=>iO t lo hi f k) x lo hi x.kids 0 by
   rw [<-hA,<-hLL];show (match t.dm (j:Int) with|none=>_|some x=>_)=_;rw [HXX])
  clear hA hs0 b0 HS N3 DG Ti hsm;have hA0:=ag (qD.later hbl aO);have hT0:fe ob w wc:=(fe.of hb1 aO ai).trans (fe.of hbl aO ai);have hx0:wc.heap[w.heap.size]?=_:=(hbl.block _ ai).trans k1;have hrw:∀b,mV ob wc b->b<w.heap.size:=fun b ⟨u,h1,h2⟩=>(HA.row ⟨u,(hb1.block ob ai).symm.trans ((hbl.block ob ai).symm.trans h1),h2⟩).2;have hwz:=hbl.size;have Jd:Mid w0 ob (ah (some (nb,fV)) t.nodes c) t.root lo hi w w (some (.cells #[.bool x.leaf,ah ae x.aI ne,ah ak x.keys nk,ah ad x.kids rV,ah ab x.buf oN] 125)) wc (ft P):=⟨hA0,hT0,hx0,⟨ai,ai⟩,fun b hb=>by have:=hrw b hb;omega⟩;have hr0:∀b,mV ob wc b->(ah ls LL lc).ownBlock≠some b:=fun b hb h=>by have h1:=hrw b hb;have h2:=(hol.lt b h).1;omega
  rw [hLL];have HST:=ag (aJ Jd (aJ hol hr0));have X9:ob+2<W1:=ai;clear hA0 hT0 hx0 hr0 hol hbl hLL k1 hrw Jd;go_wp2_with fail
  go_loopg [25] LL (fun g i wr=>∃k:Nat,k<=LL/\g=LL-k/\i=af k/\Hid (Mid w0 ob (ah (some (nb,fV)) t.nodes c) t.root lo hi w w (some (.cells #[.bool x.leaf,ah ae x.aI ne,ah ak x.keys nk,ah ad x.kids rV,ah ab x.buf oN] 125)) wr (ft (P++(LL.take k).filter (aV lo hi)))/\ay W1 wr (ah ls LL lc) LL/\∀b,mV ob wr b->(ah ls LL lc).ownBlock≠some b))
  case atStart=>exact⟨0,eY _,rfl,rfl,by have:=HST.out;exact ag (by simpa using this)⟩
  case round=>
   clear HST;obtain⟨k,hk,rfl,rfl,HR⟩:=hrel;obtain⟨hM,ho,hr⟩:=HR.out;by_cases ir:k<LL
   ·obtain⟨_,_,hv,-,-,-,-,h5⟩:=ho.at ai;injection hv with hv1 _ hv3;subst hv3;obtain⟨eb,cM,ll,pq,jF⟩:=h5 ai;subst ll;subst hv1;obtain⟨y0,y1,y2,y3,y4,y5,y6⟩:=br (aW _ _) pq jF ir;obtain⟨y,hy⟩:=bG (LL[k]);rw [hy]at y0 y1 y2 y3 y4 y5 y6;have HY:=ag hy;have hwz:w<wr.heap.size:=hM.lt.2;have hoz:ob+2<wr:=hM.at_.size;obtain⟨W8,mq⟩:=cd (wr.alloc (.cells #[af y.key,af y.is.c,af y.is.s,af y.is.mi,af y.is.ma,af y.is.t,af y.is.l] 107));have jf:aq wr W8:=(by rw [mq];exact aj);have IV:W8=wr.heap.size+1:=(by rw [mq];simp);have k8:W8.heap[wr.heap.size]?=some (.cells #[af y.key,af y.is.c,af y.is.s,af y.is.mi,af y.is.ma,af y.is.t,af y.is.l] 107):=(by rw [mq];exact au _ _ rfl);have TI:=hM.later jf aO;obtain⟨yr,hr8⟩:=hM.list (fe.of jf aO ai) X9 ho hr;have htk:(LL.take (k+1)).filter (aV lo hi)=(LL.take k).filter (aV lo hi)++(if aV lo hi y=true then [y]else []):=by
     rw [ja ir,hy,qH];by_cases h:aV lo hi y=true
     ·rw [aw h,uS h];rfl
     ·rw [ar h,uR h];rfl
    have Ev:=ag htk;have gV:=ag (aJ TI (aJ yr hr8));have jA:=fun w'=>cN (ab:=eb) (aR:=cM) (n:=LL.length) (cap:=lc) (show (k:Int)=((k:Nat):Int) by rfl) ir w';obtain⟨s0,s1,s2,s3,s4,s5,s6⟩:(W8,wr.heap.size,0,y.key)/\(W8,wr.heap.size,1,y.is.c)/\(W8,wr.heap.size,2,y.is.s)/\(W8,wr.heap.size,3,y.is.mi)/\(W8,wr.heap.size,4,y.is.ma)/\(W8,wr.heap.size,5,y.is.t)/\(W8,wr.heap.size,6,y.is.l):=(by simp [World.cell?,k8]);have cl:W8.cell? (w0,1,0)=some (af lo):=(by simp [World.cell?,TI.at_.low]);have ch:W8.cell? (w0,2,0)=some (af hi):=(by simp [World.cell?,TI.at_.high]);have ce:W8.cell? (ob+1,0)=some (af (if (ft (P++(LL.take k).filter (aV lo hi))).isSome then 0 else 1)):=(by simp [World.cell?,TI.at_.err]);go_upto_region 4 with (fail);rw [<-mq];clear hM ho hr mq TI yr hr8 htk jF h5 hy y0 y1 y2 y3 y4 y5 y6 k8 jA HR;by_cases i1:lo<=y.key
    ·by_cases i2:y.key<hi
     ·have hin:aV lo hi y=true:=(by simp [aV,i1,i2]);rw [aw hin]at Ev;have HG:=ag (show dX (P++A) by have:=HPP.out;rw [Uf,<-iT]at this;exact this.left);have HG1:=ag (show dX (P++(LL.take k).filter (aV lo hi)) by
       have:=HG.out;rw [<-HAA,<-rG k LL,qH,<-iT]at this;exact this.left)
      have HYA:=ag (show y∈P++A by
       rw [<-HAA];simp only [kW,nt];right;exact⟨by rw [<-HY];exact eZ ir,hin⟩)
      cases hbg:ft (P++(LL.take k).filter (aV lo hi)) with
      |none=>
       rw [hbg]at ce;have HN:=ag (show ft (P++(LL.take (k+1)).filter (aV lo hi))=ft (P++(LL.take k).filter (aV lo hi)) by
        rw [hbg,Ev,<-iT];exact vW hbg)
       simp only [Option.isSome_none]at ce;clear hbg hin;go_wp2;go_roundg (LL-(k+1))
       case measure=>omega
       case rel=>exact⟨k+1,ai,rfl,by go_num,by have:=gV.out;rw [<-HN]at this;exact ag this⟩
      |some es=>
       rw [hbg]at ce;have TI:=gV.1;obtain⟨v,o1,o2,o3⟩:=TI.at_.out;have hov:=o3 es hbg;obtain⟨g1,g2,g3,g4⟩:=qc HG1 hbg;obtain⟨vs,vc,rfl⟩:=hov.isSlice;have alQ:ob+2<W8:=TI.at_.size;have HM:=ag (xe (B:=ob+3) hov ai ai g1 g2 (HG.1 y HYA).2 g3 (HG.2.1 y HYA));have GY:=ag (show ft (P++(LL.take (k+1)).filter (aV lo hi))=gJ es y by rw [Ev,<-iT,sF,hbg];rfl);have HBE:=ag fun w6 (TH:aA (fun b=>(ah vs es vc).ownBlock=some b) W8 w6)=>(by
        have h1:w6.heap[ob]?=_:=(TH.block ob ai (fun h=>by have:=(o2 _ h).1;omega)).trans o1;have h2:w6.heap[ob+1]?=_:=(TH.block (ob+1) ai (fun h=>by have:=(o2 _ h).1;omega)).trans TI.at_.err;simp [World.frozen?,World.cell?,h1,h2]:w6.frozen? ⟨ob,0,none⟩=false/\w6.frozen? ⟨ob+1,0,none⟩=false/\w6.cell? (ob,0)=some (ah vs es vc)/\w6.cell? (ob+1,0)=some (af (if (ft (P++(LL.take k).filter (aV lo hi))).isSome then 0 else 1)))
       have Xg:=ag o1;have co:W8.cell? (ob,0)=some (ah vs es vc):=(by simp [World.cell?,o1]);have Bh:=ag fun w6 st' v' (E:Int) (TH:aA (fun b=>(ah vs es vc).ownBlock=some b) W8 w6) (hv':∀b,v'.ownBlock=some b->(ah vs es vc).ownBlock=some b\/W8.heap.size<=b) (hE:E=if (st':Option (List aH)).isSome then 0 else 1) (hl:∀b,v'.ownBlock=some b->b<w6.heap.size) (hO:∀es,st'=some es->ay (ob+3) w6 v' es) (hst:ft (P++(LL.take (k+1)).filter (aV lo hi))=st')=>(by
        obtain⟨q1,q2,-⟩:=mj.stored gV.1.at_ Xg TH hv' hE hl hO;rw [hst];exact⟨gV.1.next q1 q2,gV.1.list q2 X9 gV.2.1 gV.2.2⟩ :
        Mid w0 ob (ah (some (nb,fV)) t.nodes c) t.root lo hi w w (some (.cells #[.bool x.leaf,ah ae x.aI ne,ah ak x.keys nk,ah ad x.kids rV,ah ab x.buf oN] 125)) ((w6.setCell (ob,0) v').setCell (ob+1,0) (af E)) (ft (P++(LL.take (k+1)).filter (aV lo hi)))/\ay W1 ((w6.setCell (ob,0) v').setCell (ob+1,0) (af E)) (ah (some (eb,cM)) LL lc) LL/\∀b,mV ob ((w6.setCell (ob,0) v').setCell (ob+1,0) (af E)) b->(ah (some (eb,cM)) LL lc).ownBlock≠some b)
       clear TI o1 o2 o3 hov g1 g2 g3 g4 hbg hin;simp only [Option.isSome_some,if_true]at ce
       cases hI:gJ es y with
       |none=>
        rw [hI]at HM GY;clear hI;go_wp2_with ((go_at_call 111;(with_reducible refine HM.out.mono ?_);rintro e w6 ⟨TH,rfl,sM⟩;obtain⟨f0,f1,f2,f3⟩:=HBE _ TH;have hl6:=fun b hb=>(sM.lt b hb).2));go_roundg (LL-(k+1))
        case measure=>omega
        case rel=>exact⟨k+1,ai,rfl,by go_num,ag (Bh w6 none _ 1 TH (fun b hb=> .inl hb) rfl hl6 (fun _ h=>by cases h) GY)⟩
       |some es'=>
        rw [hI]at HM GY;clear hI;go_wp2_with ((go_at_call 111;(with_reducible refine HM.out.mono ?_);rintro e w6 ⟨TH,v6,rfl,sM,hv6⟩;obtain⟨f0,f1,f2,f3⟩:=HBE _ TH;have hl6:=fun b hb=>(sM.lt b hb).2;obtain⟨s6,c6,rfl⟩:=sM.isSlice));go_roundg (LL-(k+1))
        case measure=>omega
        case rel=>exact⟨k+1,ai,rfl,by go_num,ag (Bh w6 (some es') _ 0 TH hv6 rfl hl6 (fun _ h=>by cases h;exact sM) GY)⟩
     ·have HN:=ag (show ft (P++(LL.take (k+1)).filter (aV lo hi))=ft (P++(LL.take k).filter (aV lo hi)) by
       rw [Ev,ar (by simp [aV];omega),nQ])
      have XU:hi<=y.key:=ai;clear i2;go_wp2;go_roundg (LL-(k+1))
      case measure=>omega
      case rel=>exact⟨k+1,ai,rfl,by go_num,by have:=gV.out;rw [<-HN]at this;exact ag this⟩
    ·have HN:=ag (show ft (P++(LL.take (k+1)).filter (aV lo hi))=ft (P++(LL.take k).filter (aV lo hi)) by
      rw [Ev,ar (by simp [aV];omega),nQ])
     have i1':y.key<lo:=ai;clear i1;go_wp2;go_roundg (LL-(k+1))
     case measure=>omega
     case rel=>exact⟨k+1,ai,rfl,by go_num,by have:=gV.out;rw [<-HN]at this;exact ag this⟩
   ·obtain rfl:k=LL:=ai;rw [iM aO,HAA]at hM;obtain⟨hk4,hkk,yx⟩:=Oc HV HXX;have HM:=ag hM;have HKV:=ag yx;have Yo:x.kids.length<1000:=ai;have aie:=ag hkk;have hx3:wr.cell? (w,3)=some (ah ad x.kids rV):=(by simp [World.cell?,hM.node]);have hPA:=ag (show dX (P++(A++iP (fun k=>iO t lo hi f k) x lo hi x.kids 0)) by have:=HPP.out;rw [Uf]at this;exact this);clear hM ho hr HR hkk yx hk4 X9 HAA HLL;go_wp2_with fail;clear hx3
    go_loopg [53] x.kids (fun g i wr=>∃m:Nat,m<=x.kids/\g=x.kids-m/\i=af m/\Hid (Mid w0 ob (ah (some (nb,fV)) t.nodes c) t.root lo hi w w (some (.cells #[.bool x.leaf,ah ae x.aI ne,ah ak x.keys nk,ah ad x.kids rV,ah ab x.buf oN] 125)) wr (ft (P++(A++iP (fun k=>iO t lo hi f k) x lo hi (x.kids.take (m)) 0)))))
    case atStart=>exact⟨0,eY _,rfl,rfl,by have:=HM.out;exact ag (by simpa [iP] using this)⟩
    case round=>
     clear HM;obtain⟨m,hm,rfl,rfl,HR⟩:=hrel;have hM:=HR.out;have hA:=hM.at_;by_cases ir:m<x.kids
     ·obtain⟨K,hK⟩:∃K,x.kids[m]?=some K:=⟨x.kids[m],by simp [ir]⟩;obtain⟨kb,A6,XR,ke,hkb,hkc⟩:=gM.get (HDD.below hA.below aO) hK;injection ke with XQ _ XP;subst XQ XP;have ac0:x.keys+1=x.kids.length:=aie (by rintro h;rw [h]at ir;simp at ir);have jA:=fun w'=>jL (ab:=kb) (aR:=A6) (n:=x.kids.length) (cap:=rV) (show (m:Int)=((m:Nat):Int) by rfl) ir w';obtain⟨x2,x3⟩:wr.cell? (w,2)=some (ah ak x.keys nk)/\wr.cell? (w,3)=some (ah (some (kb,A6)) x.kids rV):=(by simp [World.cell?,hM.node]);have cl:wr.cell? (w0,1,0)=some (af lo):=(by simp [World.cell?,hA.low]);have ch:wr.cell? (w0,2,0)=some (af hi):=(by simp [World.cell?,hA.high]);have HKEY:=ag fun(i:Nat) (y:Int) (hy:x.keys[i]?=some y)=>gM.get (ZR.below hA.below aO) hy;have GC:=ag (Lt (go:=fun k=>iO t lo hi f k) (lo:=lo) (hi:=hi) hK);have HKR:=ag (Lv (go:=fun k=>iO t lo hi f k) (x:=x) (lo:=lo) (hi:=hi) (m+1));have aic:=ag (HKV m K hK);obtain⟨kl,hkl⟩:=bG (x.keys.length);rw [hkl]at ac0 x2 HKEY;have Xm:=ag hkl;have aj9:m<=kl:=ai;have aj8:kl<1000:=ai;clear hM hA hK ac0 hkl;go_upto_region 10 with (fail);go_cut [85] (fun c wx=>c = .bool (js x lo hi m)/\aq wr wx)
      case first=>
       clear jA hkc hkb x3;by_cases m0:m=0
       ·have ez:((m:Int) == 0)=true:=(by simp;omega);by_cases ml:m=kl
        ·have HG:=ag (show js x lo hi m=true from tB (fun h=>absurd m0 h) (fun h=>absurd (ml.trans Xm.symm) h));have em:((m:Int) == (kl:Int))=true:=(by simp;omega);clear HKEY m0 ml;go_quiet (fail);go_wp2;go_meet;exact⟨by rw [HG],aj⟩
        ·obtain⟨T,hT⟩:∃T,x.keys[m]?=some T:=⟨x.keys[m]'(by rw [Xm];omega),bh⟩;obtain⟨b2,OE,cap2,e2,hb2,hc2⟩:=HKEY m T hT;injection e2 with f1 _ f3;subst f1 f3;have zH:m<kl:=ai;have I7:=fun w'=>jL (ab:=b2) (aR:=OE) (n:=kl) (cap:=nk) (show (m:Int)=((m:Nat):Int) by rfl) zH w';have em:((m:Int) == (kl:Int))=false:=(by simp;omega);by_cases i2:lo<T
         ·have HG:=ag (show js x lo hi m=true from tB (fun h=>absurd m0 h) (fun _=>⟨T,hT,i2⟩));have et:decide (lo<T)=true:=(by simp [i2]);clear hT HKEY i2 m0 ml;go_quiet (fail);go_wp2;go_meet;exact⟨by rw [HG],aj⟩
         ·have HG:=ag (show js x lo hi m=false from CX hT i2);have et:decide (lo<T)=false:=(by simp;omega);clear hT HKEY i2 m0 ml;go_quiet (fail);go_wp2;go_meet;exact⟨by rw [HG],aj⟩
       ·have ez:((m:Int) == 0)=false:=(by simp;omega);obtain⟨F,hF⟩:∃F,x.keys[m-1]?=some F:=⟨x.keys[m-1]'(by rw [Xm];omega),bh⟩;obtain⟨b1,ab5,ani,e1,xm,hc1⟩:=HKEY (m-1) F hF;injection e1 with f1 _ f3;subst f1 f3;have hw1:IntKind.i64.wrap ((m:Int)-1)=(m:Int)-1:=bI _ ai;have ac2:=fun w'=>jL (ab:=b1) (aR:=ab5) (n:=kl) (cap:=nk) (show (m:Int)-1=((m-1:Nat):Int) by omega) ai w';by_cases i1:F<hi
        ·have ef:decide (F<hi)=true:=(by simp [i1]);by_cases ml:m=kl
         ·have HG:=ag (show js x lo hi m=true from tB (fun _=>⟨F,hF,i1⟩) (fun h=>absurd (ml.trans Xm.symm) h));have em:((m:Int) == (kl:Int))=true:=(by simp;omega);clear hF HKEY m0 ml i1;go_quiet (fail);go_wp2;go_meet;exact⟨by rw [HG],aj⟩
         ·obtain⟨T,hT⟩:∃T,x.keys[m]?=some T:=⟨x.keys[m]'(by rw [Xm];omega),bh⟩;obtain⟨b2,OE,cap2,e2,hb2,hc2⟩:=HKEY m T hT;injection e2 with f1 _ f3;injection f1 with f1;injection f1 with f1 f2;subst f1 f2 f3;have zH:m<kl:=ai;have I7:=fun w'=>jL (ab:=b1) (aR:=ab5) (n:=kl) (cap:=nk) (show (m:Int)=((m:Nat):Int) by rfl) zH w';have em:((m:Int) == (kl:Int))=false:=(by simp;omega);by_cases i2:lo<T
          ·have HG:=ag (show js x lo hi m=true from tB (fun _=>⟨F,hF,i1⟩) (fun _=>⟨T,hT,i2⟩));have et:decide (lo<T)=true:=(by simp [i2]);clear hT hF HKEY i1 i2 m0 ml;go_quiet (fail);go_wp2;go_meet;exact⟨by rw [HG],aj⟩
          ·have HG:=ag (show js x lo hi m=false from CX hT i2);have et:decide (lo<T)=false:=(by simp;omega);clear hT hF HKEY i1 i2 m0 ml;go_quiet (fail);go_wp2;go_meet;exact⟨by rw [HG],aj⟩
        ·have HG:=ag (show js x lo hi m=false from L4 m0 hF i1);have ef:decide (F<hi)=false:=(by simp;omega);clear hF HKEY m0 i1;go_quiet (fail);go_wp2;go_meet;exact⟨by rw [HG],aj⟩
      case rest=>
       obtain⟨rfl,hbc⟩:=hcut;have hM:=HR.out.later hbc aO;have Tf:=ag hM;have cw:wc.cell? (ob+2,0)=some (.func (.func 110) #[] #[.pointer (some (w0,0)), .pointer (some (w0,1,0)), .pointer (some (w0,2,0)), .pointer (some (ob+1,0)), .pointer (some (ob,0)), .pointer (some (ob+2,0))]):=(by simp [World.cell?,hM.at_.walk]);clear hM x2 x3 cl ch jA hkc hkb hbc
       cases hg:js x lo hi m with
       |false=>
        have VT:=ag (show iP (fun k=>iO t lo hi f k) x lo hi (x.kids.take (m+1)) 0=iP (fun k=>iO t lo hi f k) x lo hi (x.kids.take m) 0 by rw [GC,ar (by simp [hg]),nQ]);clear hg;go_wp2;go_roundg (x.kids-(m+1))
        case measure=>omega
        case rel=>exact⟨m+1,ai,rfl,by go_num,by have:=Tf.out;rw [<-VT]at this;exact ag this⟩
       |true=>
        have VT:=ag (show iP (fun k=>iO t lo hi f k) x lo hi (x.kids.take (m+1)) 0=iP (fun k=>iO t lo hi f k) x lo hi (x.kids.take m) 0++iO t lo hi f K by rw [GC,aw hg]);have ZG:=ag (show dX ((P++(A++iP (fun k=>iO t lo hi f k) x lo hi (x.kids.take m) 0))++iO t lo hi f K) by
         obtain⟨R,hR⟩:=HKR.out;have:=hPA.out;rw [hR,VT]at this;simp only [<-iT]at this ⊢;exact this.left)
        obtain⟨a',b',l',h',hvk⟩:=aic.out;have ie:=ag (Uh K a' b' l' h' _ wc hvk ZG Tf.at_);have Bh:=ag fun w5 (ud:fe ob wc w5) (YR:mj w0 ob (ah (some (nb,fV)) t.nodes.length c) t.root lo hi w5 (ft ((P++(A++iP (fun k=>iO t lo hi f k) x lo hi (x.kids.take m) 0))++iO t lo hi f K)))=>(by
         have:=Tf.next YR ud;rw [iT,iT,<-VT]at this;exact this:Mid w0 ob (ah (some (nb,fV)) t.nodes c) t.root lo hi w w (some (.cells #[.bool x.leaf,ah ae x.aI ne,ah ak x.keys nk,ah (some (kb,A6)) x.kids rV,ah ab x.buf oN] 125)) w5 (ft (P++(A++iP (fun k=>iO t lo hi f k) x lo hi (x.kids.take (m+1)) 0))))
        clear hg hvk;go_wp2_with ((go_at_call 110;(with_reducible refine ie.out.mono ?_);rintro e w5 ⟨rfl,ud,YR⟩));go_roundg (x.kids-(m+1))
        case measure=>omega
        case rel=>exact⟨m+1,ai,rfl,by go_num,ag (Bh _ ud YR)⟩
     ·obtain rfl:m=x.kids:=ai;rw [iM aO,<-Uf]at hM;have HM:=ag hM;clear hM hA HR;go_wp2
      go_end0
      exact⟨rfl,HM.turn,HM.at_⟩
section
variable {lo hi:Int} {t:Tr}
theorem AO {t:Tr} {tv:Value} {w0:World} (hn:bn w0 tv t.nodes) {ob:Nat} {lo hi:Int}:∀(f:Nat) (n a b:Int) (l:List Int) (h:Nat) (P:List aH) (w:World),nU t f n a b=some (l,h)->dX (P++iO t lo hi f n)->mj w0 ob tv t.root lo hi w (ft P) ->
   Calls Tryz.prog 110 #[af n, .pointer (some (w0,0)), .pointer (some (w0,1,0)), .pointer (some (w0,2,0)), .pointer (some (ob+1,0)), .pointer (some (ob,0)), .pointer (some (ob+2,0))] w fun e w'=>e = .returned (.tuple #[])/\fe ob w w'/\mj w0 ob tv t.root lo hi w' (ft (P++iO t lo hi f n))
 |0,_,_,_,_,_,_,_,hv,_,_=>by cases hv
 |f+1,n,a,b,l,h,P,w,hv,hP,hA=>Gq hn (fun n a b l h P w hv hP hA=>AO hn f n a b l h P w hv hP hA) hv hP hA
theorem Oa (h1:t.nodes.length<=2000) (hv:nR t):dX (iO t lo hi 12 t.root):=by
 have hc:=cP hv;have hr:=nZ hv;have hl:=vk hv;obtain⟨l,h,e,hn,hl2⟩:=hv;have hp:=(sS (lo:=lo) (hi:=hi) _ _ _ _ _ _ e).1;have hq:=(nD e hn hl2).filter (aV lo hi);have hpq:=hp.trans hq;refine⟨fun e he=>hc e ((nt.1 (hpq.mem_iff.1 he)).1),fun e he=>hr e ((nt.1 (hpq.mem_iff.1 he)).1),?_⟩;have h2:=hpq.length_eq;have h3:=ub (aV lo hi) t.all;omega
theorem ED (w:World) (o1 o2 o3:Obj):(((w.alloc o1).alloc o2).alloc o3).heap[w.heap.size]?=some o1/\(((w.alloc o1).alloc o2).alloc o3).heap[w.heap.size+1]?=some o2/\(((w.alloc o1).alloc o2).alloc o3).heap[w.heap.size+2]?=some o3:=by
 have a1:∀(w:World) (o:Obj),(w.alloc o).heap[w.heap.size]?=some o:=fun w o=>au _ _ rfl;have a2:∀(w:World) (o:Obj) (b:Nat),b<w.heap.size->(w.alloc o).heap[b]?=w.heap[b]?:=fun w o b h=>((aW w w).alloc aO o).block b h;have sz:∀(w:World) (o:Obj),(w.alloc o).heap.size=w+1:=fun w o=>bh;refine⟨?_,?_,?_⟩
 ·rw [a2 _ _ _ (by rw [sz,sz];omega),a2 _ _ _ (by rw [sz];omega)];exact a1 _ _
 ·rw [a2 _ _ _ (by rw [sz,sz];omega)];have:=a1 (w.alloc o1) o2;rw [sz]at this;exact this
 ·have:=a1 ((w.alloc o1).alloc o2) o3;rw [sz,sz]at this;exact this
theorem lq {v:Value} {w:World} (h:di w v t) :
  Calls Tryz.prog 74 #[v,af lo,af hi] w (kG w w (aC t) (mz t lo hi)):=by
 obtain⟨nv,rfl,hn⟩:=h;obtain⟨⟨ao,cap,rfl⟩,hlen⟩:=hn.len;obtain⟨W0,hW0⟩:=cd (((w.alloc (.cells #[ah ao t.nodes cap,af t.root] 27)).alloc (.cells #[af lo] 3)).alloc (.cells #[af hi] 3));have hb0:aq w W0:=by rw [hW0];exact aj
 have hz0:W0=w.heap.size+3:=by rw [hW0];simp
 have hmf:∀(fn:Fn) (first cap:Array Value) (w:World),(Instr.makeFunc fn first cap).run Tryz.prog w = .ok (.func fn first cap) w:=fun _ _ _ _=>rfl;have HK:=ag (by rw [hW0];exact ED _ _ _ _ :
  W0.heap[w.heap.size]?=some (.cells #[ah ao t.nodes cap,af t.root] 27)/\W0.heap[w.heap.size+1]?=some (.cells #[af lo] 3)/\W0.heap[w.heap.size+2]?=some (.cells #[af hi] 3))
 have jD:=ag (kQ (t:=t) (w:=W0) (v:= .agg #[ah ao t.nodes cap,af t.root]) ⟨_,rfl,hn.below hb0 aO⟩);have HN:=ag hn;obtain⟨c0,c1⟩:W0.cell? (w,0)=some (ah ao t.nodes cap)/\(W0,w.heap.size,1,t.root):=by simp [World.cell?,HK.out.1]
 clear hn;go_enter Tryz.func74,Tryz.ntmps74;go_upto_region 1 with (fail);rw [<-hW0];clear hW0;by_cases hf:aC t=0
 ·rw [hf]at jD;have HV:=ag (cZ hf);have HF0:=ag hf;go_upto_region 4 with ((go_at_call 107;(with_reducible refine jD.out.mono ?_);rintro e w1 ⟨rfl,hb1⟩));have hz1:w+3<=w1.heap.size:=by have:=hb1.size;omega
  obtain⟨W9,xF⟩:=cd (((w1.alloc (.cells #[az 0 0] 35)).alloc (.cells #[af 0] 31)).alloc (.cells #[(.func (.func 110) #[] #[.pointer (some (w,0)), .pointer (some (w,1,0)), .pointer (some (w,2,0)), .pointer (some (w1,1,0)), .pointer (some (w1,0)), .pointer (some (w1,2,0))])] 168));have kS:aq w1 W9:=by rw [xF];exact aj
  have U3:W9=w1.heap.size+3:=by rw [xF];simp
  obtain⟨n1,n2,n3⟩:=(by rw [xF];exact ED _ _ _ _ :
   W9.heap[w1.heap.size]?=some (.cells #[az 0 0] 35)/\W9.heap[w1.heap.size+1]?=some (.cells #[af 0] 31)/\W9.heap[w1.heap.size+2]?=some (.cells #[(.func (.func 110) #[] #[.pointer (some (w,0)), .pointer (some (w,1,0)), .pointer (some (w,2,0)), .pointer (some (w1,1,0)), .pointer (some (w1,0)), .pointer (some (w1,2,0))])] 168))
  have Sa:aq W0 W9:=aF hb1 kS hb1.size;have m0:W9.heap[w.heap.size]?=_:=(Sa.block _ ai).trans HK.1;have HA:=ag (show mj w w1 (ah ao t.nodes cap) t.root lo hi W9 (ft []) from
   ⟨aF hb0 Sa hb0.size,ai,ai,m0,(Sa.block _ ai).trans HK.2.1,(Sa.block _ ai).trans HK.2.2,n2,n3,_,n1,fun b h=>by simp [Value.ownBlock]at h,fun es h=>by
    have:es=[]:=(by simpa [ft] using h.symm);subst this;exact ay.nil _ _⟩)
  have U6:=HV.2;obtain⟨l,h,LG,-,-⟩:=U6;have ie:=ag (AO HN (ob:=w1.heap.size) (lo:=lo) (hi:=hi) 12 t.root _ _ _ _ [] W9 LG (by rw [List.nil_append];exact Oa HV.1 HV.2) HA);rw [List.nil_append,all_eq HV.2]at ie;have d1:W9.cell? (w,1)=some (af t.root):=by simp [World.cell?,m0]
  have d2:W9.cell? (w1,2,0)=some (.func (.func 110) #[] #[.pointer (some (w,0)), .pointer (some (w,1,0)), .pointer (some (w,2,0)), .pointer (some (w1,1,0)), .pointer (some (w1,0)), .pointer (some (w1,2,0))]):=by simp [World.cell?,n3]
  have MR:=ag fun w5 st (ha:mj w w1 (ah ao t.nodes cap) t.root lo hi w5 st)=>(by
   obtain⟨v,o1,o2,o3⟩:=ha.out;exact⟨v,by simp [World.cell?,o1],by simp [World.cell?,ha.err],ha.below,o3⟩ :
   ∃v,w5.cell? (w1,0)=some v/\w5.cell? (w1,1,0)=some (af (if st.isSome then 0 else 1))/\aq w w5/\∀es,st=some es->ay (w1+3) w5 v es)
  go_upto_region 8 with (fail);rw [show w+1+1=w.heap.size+2 from rfl,show w1+1+1=w1.heap.size+2 from rfl,<-xF];clear xF n1 n2 n3 m0 Sa kS c0 c1 LG HA hf
  cases hr:mz t lo hi with
  |none=>
   rw [hr]at ie;have HR:=ag hr;clear hr;go_upto_region 10 with ((go_at_call 110;(with_reducible refine ie.out.mono ?_);rintro e w5 ⟨rfl,-,YR⟩;obtain⟨v5,e0,e1,cy,-⟩:=MR _ _ YR;simp only [Option.isSome_none]at e1));go_quiet (fail);go_wp2;exact bW (v:= .tuple #[az 0 0,af 1]) (by simp [results,Tryz.results74,go_sem, *]) rfl ⟨aj,fun h=>absurd HF0 h,fun _=>by rw [HR]⟩
  |some es=>
   rw [hr]at ie;have HR:=ag hr;clear hr;go_wp2_with ((go_at_call 110;(with_reducible refine ie.out.mono ?_);rintro e w5 ⟨rfl,-,YR⟩;obtain⟨v5,e0,e1,cy,fY⟩:=MR _ _ YR;simp only [Option.isSome_some,if_true]at e1;have sM:=(fY es rfl).mono (show w<=w1.heap.size+3 by omega);obtain⟨s5,c5,rfl⟩:=sM.isSlice));exact bW (v:= .tuple #[ah s5 es c5,af 0]) (by simp [results,Tryz.results74,go_sem, *]) rfl ⟨aj,fun h=>absurd HF0 h,fun _=>by rw [HR];exact⟨_,rfl,jY⟩⟩
 ·have d2:(aC t != 0)=true:=by simp [hf]
  obtain⟨F,hF⟩:=bG (aC t);have HF1:=ag hF;have Ui:=ag hf;rw [hF]at jD d2;clear hF hf;go_wp2_with ((go_at_call 107;(with_reducible refine jD.out.mono ?_);rintro e w1 ⟨rfl,hb1⟩;have cT:=aF hb0 hb1 hb0.size));exact bW (v:= .tuple #[az 0 0,af F]) (by simp [results,Tryz.results74,go_sem, *]) rfl ⟨aj,fun _=>by rw [HF1],fun h=>absurd h Ui⟩
end
end Go.Proofs.YtmljjfhgciaceaaGreatDoor
