/- Texts of mine that come as one: AllA AllB AllK AllW AllM. -/
import Derived.Test.YtmljjfhgciaceaaDoorHd
import Derived.Test.YtmljjfhgciaceaaDoorMerged
import Derived.Test.YtmljjfhgciaceaaDoorPA
import Derived.Test.YtmljjfhgciaceaaDoorKG
import Derived.Laws.OwnMore
import Derived.Test.YtmljjfhgciaceaaDoorNC
import Derived.BigQuiet
import Derived.Deep.QuietTactic
import Derived.Deep.CutBlock
import Derived.Deep.RegionHeld3
import Derived.Test.YtmljjfhgciaceaaDoorSX
import Derived.Laws.EntriesVeiled
namespace Go.Proofs.YtmljjfhgciaceaaDoor
open Go.RowKit
section
set_option maxRecDepth 100000
variable {B ob b:Nat} {st:Option (List aA)} {tv:Value} {w w' w0:World}
theorem xJ {v vx:Value} {es xs:List aA} (ho:av B w v es) (hx:eQ w vx xs) (h1:es.length+xs.length<=1000000) (hB:B<=w.heap.size) (ty:TypeId) :
  ∃v' w',(Builtin.append_ #[63,63] ty #[v,vx]).run Tryd.prog w = .ok v' w'/\av B w' v' (es++xs)/\w.grownBy w' v.ownBlock/\(v'.ownBlock=v.ownBlock\/v'.ownBlock=some w.heap.size):=by
 obtain⟨i0,z,hi0,hz,hz1,hz2,hz3⟩:=cC Tryd.Gp
 have h:=hx
 obtain⟨ao,cap,rfl,a1,a2,a3,a4,a5⟩:=hx
 cases ao with
 |none=>
  have h0:xs.length=0:=by have:=a4 rfl;omega
  obtain rfl:=xN h0
  obtain rfl:cap=0:=a4 rfl
  refine⟨v,w,run_append_owned_none w B 63 ty 96 i0 7 Tryd.underlying63 hi0 v es.length _ ho.row,by simpa using ho,⟨rfl,rfl,rfl,kK _,fun _ _ _=>rfl⟩, .inl rfl⟩
 |some ad=>
  obtain⟨_,g1,g2⟩:=h.news dg
  obtain⟨v',w',hr,h2,h3,_,h5⟩:=run_append_own_at (P:=Tryd.prog) w B 63 ty 96 i0 z 7 56 Tryd.underlying63 hi0 hz hz1 hz2 hz3 aW v es.length _ ho.row ad xs.length cap (xs.flatMap bj) g1 g2 (jf xs) (by unfold maxLen;omega) af hB
  refine⟨v',w',hr,⟨?_⟩,h3,h5⟩
  rw [tM,eP];exact h2
theorem xG {P:Program} {ops:Array Oper} {o:Oper} {a:Act} {K:Act->World->Prop} {Q:Exit->Act->World->Prop} {E:Prop}
  (hg:o.guard=none) (d x:Operand) (dT sT:TypeId) (hop:o.op=Op.call { callee:=Callee.builtin Builtin.append,args:=#[d,x],argTypes:=#[dT,sT] })
  (v u:Value) (hd:a.eval d=v) (hx:a.eval x=u) {v':Value} (hr:(Builtin.append_ #[dT,sT] o.type #[v,u]).run P w = .ok v' w') (hK:K (a.put o.dst v') w') :
  if Region.wanted o (yielded ops a.tmps)=true then Oper.wp P o a w K Q else E:=by
 have hw:Region.wanted o (yielded ops a.tmps)=true:=by simp [Region.wanted,hg]
 rw [ar hw]
 unfold Oper.wp execOp
 simp only [hop,resolve,invoke,builtin,Sem.run_bind,Sem.run_pure,Result.andThen_ok,List.map_toArray,List.map_cons,List.map_nil,hd,hx,hr]
 exact hK
structure jX (w0:World) (ob:Nat) (tv:Value) (root lo hi:Int) (w:World) (st:Option (List aA)):Prop where
 below:ah w0 w
 lt:w0.heap.size+2<ob
 size:ob+2<w.heap.size
 box:w.heap[w0.heap.size]?=some (.cells #[tv, .int .i64 root] 32)
 low:w.heap[w0.heap.size+1]?=some (.cells #[.int .i64 lo] 3)
 high:w.heap[w0.heap.size+2]?=some (.cells #[.int .i64 hi] 3)
 err:w.heap[ob+1]?=some (.cells #[.int .i64 (if st.isSome then 0 else 1)] 36)
 walk:w.heap[ob+2]?=some (.cells #[.func (.func 87) #[] #[.pointer (some ⟨w0.heap.size,0,none⟩), .pointer (some ⟨w0.heap.size+1,0,none⟩), .pointer (some ⟨w0.heap.size+2,0,none⟩), .pointer (some ⟨ob+1,0,none⟩), .pointer (some ⟨ob,0,none⟩), .pointer (some ⟨ob+2,0,none⟩)]] 140)
 out:∃v,w.heap[ob]?=some (.cells #[v] 63)/\(∀b,v.ownBlock=some b->ob+2<b/\b<w.heap.size)/\∀es,st=some es->av (ob+3) w v es
def kL (ob:Nat) (w:World) (b:Nat):Prop:=∃v,w.heap[ob]?=some (.cells #[v] 63)/\v.ownBlock=some b
structure ej (ob:Nat) (w w':World):Prop where
 turn:aw (fun b=>b=ob\/b=ob+1\/kL ob w b) w w'
 row:∀b,kL ob w' b->kL ob w b\/w.heap.size<=b
theorem ej.refl (ob:Nat) (w:World):ej ob w w:=⟨aw.refl _ _,fun _ h=> .inl h⟩
theorem ej.trans {a b c:World} (h:ej ob a b) (k:ej ob b c):ej ob a c:=by
 refine⟨h.turn.trans' k.turn fun i hi hx=>?_,fun i hi=>?_⟩
 ·rcases hx with hx|hx|hx
  ·exact .inl hx
  ·exact .inr (.inl hx)
  ·rcases h.row i hx with h1|h1
   ·exact .inr (.inr h1)
   ·omega
 ·have:=h.turn.size
  rcases k.row i hi with h1|h1
  ·rcases h.row i h1 with h2|h2
   ·exact .inl h2
   ·exact .inr h2
  ·exact .inr af
theorem ej.of (h:Below B w w') (hB:w.heap.size<=B) (oN:ob<w.heap.size):ej ob w w':=
 ⟨aw.of h hB,fun b ⟨v,h1,h2⟩=> .inl ⟨v,(h.block ob af).symm.trans h1,h2⟩⟩
theorem jX.later {root lo hi:Int} (h:jX w0 ob tv root lo hi w st) {C:Nat} (hb:Below C w w') (hC:w.heap.size<=C):jX w0 ob tv root lo hi w' st:=by
 have hs:=h.size
 have hl:=h.lt
 have hz:=hb.size
 obtain⟨v,o1,o2,o3⟩:=h.out
 have g:∀b,b<w.heap.size->w'.heap[b]?=w.heap[b]?:=fun b hlt=>hb.block b af
 exact⟨Below.trans' h.below (hb.mono hC) h.below.size,hl,af,(g _ af).trans h.box,(g _ af).trans h.low,(g _ af).trans h.high,(g _ af).trans h.err,(g _ af).trans h.walk,v,(g _ af).trans o1,fun b hb=>⟨(o2 b hb).1,mE (o2 b hb).2 hz⟩,fun es he=>(o3 es he).below hb hC⟩
theorem jX.row {root lo hi:Int} (h:jX w0 ob tv root lo hi w st) (hb:kL ob w b):ob+2<b/\b<w.heap.size:=by
 obtain⟨v,o1,o2,_⟩:=h.out
 obtain⟨u,h1,h2⟩:=hb
 rw [o1]at h1
 obtain rfl:v=u:=by simpa using h1
 exact o2 b h2
theorem ej.stay (h:ej ob w w') (hb:b<w.heap.size) (h1:b≠ob) (h2:b≠ob+1) (h3:¬kL ob w b):w'.heap[b]?=w.heap[b]?:=
 h.turn.block b hb (fun hx=>by rcases hx with hx|hx|hx;exact h1 hx;exact h2 hx;exact h3 hx)
end
section
variable {n a b:Int} {l:List Int} {f h:Nat} {t:Tr}
theorem K7 (hv:mK t (f+1) n a b=some (l,h)):n∈l:=by
 obtain⟨x,hx⟩:=yt hv
 obtain⟨_,⟨_,_,rfl,_⟩|⟨_,_,l',h',_,rfl,_⟩⟩:=ll hv hx <;> simp
theorem O7 {x:Nd} (hv:mK t (f+1) n a b=some (l,h)) (hx:t.dn n=some x):x.buf.length+x.aF.length<=14:=by
 have:=AH hv n (K7 hv)
 have hof:t.of n=x.aF++x.buf:=by unfold Tr.of;rw [hx]
 rw [hof,eP]at this;omega
theorem Bc {w:World} {b:Nat} {u v:Value} {T:TypeId} {fr:Nat×Nat} (h:w.heap[b]?=some (.cells #[u] T fr)):(w.setCell ⟨b,0,none⟩ v).heap[b]?=some (.cells #[v] T fr):=by
 have:=heap_setCell_same (off:=0) (v:=v) h
 simpa using this
theorem jX.stored {w0:World} {ob:Nat} {tv:Value} {root lo hi:Int} {wr w':World} {st st':Option (List aA)} (h:jX w0 ob tv root lo hi wr st) {v v':Value} {E:Int}
  (hv:wr.heap[ob]?=some (.cells #[v] 63)) (hT:aw (fun b=>v.ownBlock=some b) wr w') (hv':∀b,v'.ownBlock=some b->v.ownBlock=some b\/wr.heap.size<=b) (hE:E=if st'.isSome then 0 else 1) (hlt':∀b,v'.ownBlock=some b->b<w'.heap.size)
  (hO:∀es,st'=some es->av (ob+3) w' v' es) :
  jX w0 ob tv root lo hi ((w'.setCell ⟨ob,0,none⟩ v').setCell ⟨ob+1,0,none⟩ (.int .i64 E)) st'/\ej ob wr ((w'.setCell ⟨ob,0,none⟩ v').setCell ⟨ob+1,0,none⟩ (.int .i64 E)) /\
   ∀b,kL ob ((w'.setCell ⟨ob,0,none⟩ v').setCell ⟨ob+1,0,none⟩ (.int .i64 E)) b->v.ownBlock=some b\/wr.heap.size<=b:=by
 have hl:=h.lt
 have hz:=h.size
 have hb:=h.below.size
 have hT1:=hT.size
 obtain⟨u,o1,o2,o3⟩:=h.out
 obtain rfl:u=v:=by rw [hv]at o1;simpa using o1.symm
 have g:∀b,b<wr.heap.size->b<=ob+2->w'.heap[b]?=wr.heap[b]?:=fun b hb1 hb2=>hT.block b hb1 (fun hx=>by have:=(o2 b hx).1;omega)
 have g2:∀b,b≠ob->b≠ob+1->((w'.setCell ⟨ob,0,none⟩ v').setCell ⟨ob+1,0,none⟩ (.int .i64 E)).heap[b]?=w'.heap[b]?:=fun b h1 h2=>by
  rw [qc _ _ _ _ (by show b≠ob+1;exact h2),qc _ _ _ _ (by show b≠ob;exact h1)]
 have hout:((w'.setCell ⟨ob,0,none⟩ v').setCell ⟨ob+1,0,none⟩ (.int .i64 E)).heap[ob]?=some (.cells #[v'] 63):=by
  rw [qc _ _ _ _ (by show ob≠ob+1;omega)]
  exact Bc ((g ob af af).trans hv)
 have hrow:∀b,kL ob ((w'.setCell ⟨ob,0,none⟩ v').setCell ⟨ob+1,0,none⟩ (.int .i64 E)) b->u.ownBlock=some b\/wr.heap.size<=b:=fun b ⟨x,hx1,hx2⟩=>by
  rw [hout]at hx1
  obtain rfl:v'=x:=by simpa using hx1
  exact hv' b hx2
 refine⟨⟨?_,hl,by simp;omega,?_,?_,?_,?_,?_,v',hout,fun b hb'=>⟨?_,by simp;exact hlt' b hb'⟩,fun es he=>?_⟩,⟨⟨?_,?_,?_,by simp;exact hT1,fun b hb1 hx=>?_⟩,fun b hb'=>?_⟩,hrow⟩
 ·have h1:ah w0 w':=hT.below h.below hb (fun i hi=>by have:=(o2 i hi).1;omega)
  exact(h1.setCell (by show w0.heap.size<=ob;omega) _).setCell (by show w0.heap.size<=ob+1;omega) _
 ·rw [g2 _ af af,g _ af af];exact h.box
 ·rw [g2 _ af af,g _ af af];exact h.low
 ·rw [g2 _ af af,g _ af af];exact h.high
 ·rw [hE]
  refine Bc (u:= .int .i64 (if st.isSome then 0 else 1)) ?_
  rw [qc _ _ _ _ (by show ob+1≠ob;omega),g _ af af];exact h.err
 ·rw [g2 _ af af,g _ af af];exact h.walk
 ·rcases hv' b hb' with h1|h1
  ·exact(o2 b h1).1
  ·omega
 ·exact(hO es he).block fun b hb'=>g2 b (by rcases hv' b hb' with h1|h1;have:=(o2 b h1).1;omega;omega) (by rcases hv' b hb' with h1|h1;have:=(o2 b h1).1;omega;omega)
 ·exact hT.os
 ·exact hT.tape
 ·exact hT.output
 ·rw [g2 b (fun e=>hx (.inl e)) (fun e=>hx (.inr (.inl e)))]
  exact hT.block b hb1 (fun e=>hx (.inr (.inr ⟨u,hv,e⟩)))
 ·rcases hrow b hb' with h1|h1
  ·exact .inl ⟨u,hv,h1⟩
  ·exact .inr h1
end
section
variable {lo hi:Int} {go:Int->List aA} {m ob nb:Nat} {x:Nd} {st:Option (List aA)} {bo:Option Obj} {tv:Value} {w0 w wr w':World}
theorem wT {go:Int->Int->Int->Option (List Int×Nat)} {x:Nd} {a b:Int}:∀{ks:List Int} {i:Nat} {l:List Int} {h:Nat},ct go x a b ks i=some (l,h)->∀(m:Nat) (K:Int),ks[m]?=some K->∃a' b' l' h',go K a' b'=some (l',h')
 |[],_,_,_,_=>fun _ _ hm=>by simp at hm
 |k::ks,i,l,h,hv=>by
  unfold ct at hv
  split at hv
  ·split at hv
   ·rename_i l1 h1 l2 h2 e1 e2
    intro m K hm
    cases m with
    |zero=>simp only [List.getElem?_cons_zero,iE]at hm;subst hm;exact⟨_,_,_,_,e1⟩
    |succ m=>exact wT e2 m K (by simpa using hm)
   ·cases hv
  ·cases hv
theorem Jf {t:Tr} {f:Nat} {n a b:Int} {l:List Int} {h:Nat} (hv:mK t (f+1) n a b=some (l,h)) (hx:t.dn n=some x) :
  x.kids.length<=4/\(x.kids≠[]->x.keys.length+1=x.kids.length)/\∀(m:Nat) (K:Int),x.kids[m]?=some K->∃a' b' l' h',mK t f K a' b'=some (l',h'):=by
 obtain⟨_,⟨_,hl,_,_⟩|⟨_,hi,l',h',hk,_,_⟩⟩:=ll hv hx
 ·obtain⟨_,h2,_⟩:=hl
  rw [h2]
  exact⟨bq,fun h=>absurd rfl h,fun _ _ hm=>by simp at hm⟩
 ·obtain⟨_,_,h3,h4,_⟩:=hi
  exact⟨h3,fun _=>h4,fun m K hm=>wT hk m K hm⟩
theorem pR {go:Int->List aA} {x:Nd} {lo hi:Int}:∀(ps bs:List Int) (i:Nat),gD go x lo hi (ps++bs) i=gD go x lo hi ps i++gD go x lo hi bs (i+ps.length)
 |[],bs,i=>by simp [gD]
 |a::ps,bs,i=>by
  rw [List.cons_append,gD,gD,pR ps bs (i+1),jn,fR,show i+(ps.length+1)=i+1+ps.length from by omega]
theorem Gg {k:Nat} {K:Int} (h:x.kids[k]?=some K) :
  gD go x lo hi (x.kids.take (k+1)) 0=gD go x lo hi (x.kids.take k) 0++(if ij x lo hi k then go K else []):=by
 obtain⟨hk,rfl⟩:=gH.1 h
 rw [mn hk,pR,iM,fw,Nat.min_eq_left af]
 simp [gD]
theorem Gi (k:Nat):∃R,gD go x lo hi x.kids 0=gD go x lo hi (x.kids.take k) 0++R:=
 ⟨_,by rw [<-pR,wG]⟩
theorem pT (h1:m≠0->∃F,x.keys[m-1]?=some F/\F<hi) (h2:m≠x.keys.length->∃T,x.keys[m]?=some T/\lo<T):ij x lo hi m=true:=by
 simp only [ij,Bool.and_eq_true,Bool.or_eq_true,sk,List.getD_eq_getElem?_getD]
 refine⟨?_,?_⟩
 ·by_cases h:m=0
  ·exact .inl h
  ·obtain⟨F,e,h⟩:=h1 h;rw [e];exact .inr h
 ·by_cases h:m=x.keys.length
  ·exact .inl h
  ·obtain⟨T,e,h⟩:=h2 h;rw [e];exact .inr h
theorem GN {F:Int} (h0:m≠0) (h1:x.keys[m-1]?=some F) (h2:¬F<hi):ij x lo hi m=false:=by
 simp only [ij,List.getD_eq_getElem?_getD,h1]
 simp [h0,h2]
theorem zu {T:Int} (h1:x.keys[m]?=some T) (h2:¬lo<T):ij x lo hi m=false:=by
 have h3:=(gH.1 h1).1
 have h4:m≠x.keys.length:=af
 simp only [ij,List.getD_eq_getElem?_getD,h1]
 simp [h4,h2]
structure Mid (w0:World) (ob:Nat) (tv:Value) (root lo hi:Int) (w:World) (nb:Nat) (bo:Option Obj) (wr:World) (st:Option (List aA)):Prop where
 at_:jX w0 ob tv root lo hi wr st
 turn:ej ob w wr
 node:wr.heap[nb]?=bo
 lt:ob+2<nb/\nb<wr.heap.size
 row:∀b,kL ob wr b->b≠nb
theorem Mid.next {root:Int} {st':Option (List aA)} (h:Mid w0 ob tv root lo hi w nb bo wr st)
  (ha:jX w0 ob tv root lo hi w' st') (ht:ej ob wr w'):Mid w0 ob tv root lo hi w nb bo w' st':=by
 obtain⟨h1,h2,h3,⟨h4,h5⟩,h6⟩:=h
 refine⟨ha,h2.trans ht,(ht.stay h5 af af (fun hx=>h6 _ hx rfl)).trans h3,⟨h4,by have:=ht.turn.size;omega⟩,fun b hb=>?_⟩
 rcases ht.row b hb with h|h
 ·exact h6 b h
 ·omega
theorem Mid.later {root:Int} (h:Mid w0 ob tv root lo hi w nb bo wr st) {C:Nat}
  (hb:Below C wr w') (hC:wr.heap.size<=C):Mid w0 ob tv root lo hi w nb bo w' st:=
 h.next (h.at_.later hb hC) (ej.of hb hC (by have:=h.at_.size;omega))
theorem Mid.list {root:Int} (_h:Mid w0 ob tv root lo hi w nb bo wr st)
  (ht:ej ob wr w') {B:Nat} {v:Value} {LL:List aA} (hB:ob+2<B) (ho:av B wr v LL) (hr:∀b,kL ob wr b->v.ownBlock≠some b) :
  av B w' v LL/\∀b,kL ob w' b->v.ownBlock≠some b:=by
 refine⟨ho.block fun g hg=>ht.stay (ho.lt g hg).2 (by have:=(ho.lt g hg).1;omega) (by have:=(ho.lt g hg).1;omega) (fun hx=>hr g hx hg),fun b hb e=>?_⟩
 rcases ht.row b hb with h1|h1
 ·exact hr b h1 e
 ·have:=(ho.lt b e).2;omega
end
section
set_option maxRecDepth 100000
set_option maxHeartbeats 6000000
theorem Cu {t:Tr} {tv:Value} {w0:World} (hn:bu w0 tv t.nodes) {ob:Nat} {lo hi:Int} {f:Nat}
  (IH:∀(n a b:Int) (l:List Int) (h:Nat) (P:List aA) (w:World),mK t f n a b=some (l,h)->dY (P++gy t lo hi f n)->jX w0 ob tv t.root lo hi w (ft P) ->
   Calls Tryd.prog 87 #[.int .i64 n, .pointer (some ⟨w0.heap.size,0,none⟩), .pointer (some ⟨w0.heap.size+1,0,none⟩), .pointer (some ⟨w0.heap.size+2,0,none⟩), .pointer (some ⟨ob+1,0,none⟩), .pointer (some ⟨ob,0,none⟩), .pointer (some ⟨ob+2,0,none⟩)] w fun e w'=>e = .returned (.tuple #[])/\ej ob w w'/\jX w0 ob tv t.root lo hi w' (ft (P++gy t lo hi f n)))
  {n a b:Int} {l:List Int} {h:Nat} {P:List aA} {w:World} (hv:mK t (f+1) n a b=some (l,h)) (hP:dY (P++gy t lo hi (f+1) n)) (hA:jX w0 ob tv t.root lo hi w (ft P)) :
  Calls Tryd.prog 87 #[.int .i64 n, .pointer (some ⟨w0.heap.size,0,none⟩), .pointer (some ⟨w0.heap.size+1,0,none⟩), .pointer (some ⟨w0.heap.size+2,0,none⟩), .pointer (some ⟨ob+1,0,none⟩), .pointer (some ⟨ob,0,none⟩), .pointer (some ⟨ob+2,0,none⟩)] w fun e w'=>e = .returned (.tuple #[])/\ej ob w w'/\jX w0 ob tv t.root lo hi w' (ft (P++gy t lo hi (f+1) n)):=by
 obtain⟨x,hx⟩:=yt hv
 obtain⟨hn0,Gy,xn⟩:=vd hx
 obtain⟨j,hj⟩:∃j:Nat,n=j:=⟨n.toNat,af⟩
 subst hj
 rw [Int.toNat_natCast]at Gy xn
 obtain⟨nb,gL,c,ev,kv,dv,bv,rfl,hnb,hE,hK,hD,hB,c0,c1,c2,c3,c4⟩:=pQ hn hA.below xn
 obtain⟨ae,ne,rfl⟩:=hE.isSlice
 obtain⟨ak,nk,rfl⟩:=hK.isSlice
 obtain⟨ad,tT,rfl⟩:=hD.isSlice
 obtain⟨ab,oZ,rfl⟩:=hB.isSlice
 have HA:=hdd hA
 obtain⟨q0,q1⟩:w.cell? ⟨w0.heap.size,0,none⟩=some (.slice (some ⟨nb,gL,none⟩) t.nodes.length c)/\w.cell? ⟨w0.heap.size,1,none⟩=some (.int .i64 t.root):=by simp [World.cell?,hA.box]
 have hsz:=hA.size
 have hlt:=hA.lt
 have hbz:=hA.below.size
 have n0:nb<w.heap.size:=af
 have im:=fun w'=>dS (ab:=nb) (aY:=gL) (n:=t.nodes.length) (cap:=c) (show (j:Int)=((j:Nat):Int) by rfl) Gy w'
 obtain⟨W1,hW1⟩:=bQ (w.alloc (.cells #[.bool x.leaf, .slice ae x.aF.length ne, .slice ak x.keys.length nk, .slice ad x.kids.length tT, .slice ab x.buf.length oZ] 119))
 have hb1:ah w W1:=by rw [hW1];exact ag
 have k1:W1.heap[w.heap.size]?=some (.cells #[.bool x.leaf, .slice ae x.aF.length ne, .slice ak x.keys.length nk, .slice ad x.kids.length tT, .slice ab x.buf.length oZ] 119):=by rw [hW1];exact aq _ _ rfl
 have rF:=hdd (hA.later hb1 aI)
 have hz1:W1.heap.size=w.heap.size+1:=by rw [hW1];simp
 have HE:=hdd hE
 have HB:=hdd hB
 have Bx:=hdd hK
 have HDD:=hdd hD
 have HV:=hdd hv
 have X8:=hdd hP
 have HXX:=hdd hx
 have Uy:=hdd IH
 have hsm:=O7 hv hx
 clear hA hE hB hK hD hv hP hx IH
 go_enter Tryd.func87,Tryd.ntmps87
 go_upto_region 1 with (fail)
 rw [<-hW1]
 have HS:=hdd fun w' (hb:ah W1 w')=>(by
  have b0:w'.heap[w.heap.size]?=_:=(hb.block _ af).trans k1
  simp [World.cell?,b0]:w'.cell? ⟨w.heap.size,1,none⟩=some (.slice ae x.aF.length ne)/\w'.cell? ⟨w.heap.size,4,none⟩=some (.slice ab x.buf.length oZ))
 have Og:=hdd fun w' (hb:ah W1 w')=>(rF.out.later hb aI).below
 have zW:=hdd fun w' (hb:ah W1 w')=>eV (HB.out.below (Og.out w' hb) aI)
 have RH:=hdd fun w' (hb:ah W1 w')=>HE.out.below (Og.out w' hb) aI
 have b0:ah W1 W1.drew:=(aJ _ _).drew
 have hs0:=HS.out _ b0
 clear hW1 q0 q1 c0 c1 c2 c3 c4 im
 go_cut [23,24,25] (fun lv ln z wx=>av W1.heap.size wx lv (x.buf++x.aF)/\ln = .int .i64 ((x.buf++x.aF).length:Nat)/\z = .int .i64 0/\ah W1 wx)
 case first=>
  go_region_held3 (fun w'=>w'.cell? ⟨w.heap.size,1,none⟩=some (.slice ae x.aF.length ne)/\w'.cell? ⟨w.heap.size,4,none⟩=some (.slice ab x.buf.length oZ))
   (first|with_reducible exact hs0|(with_reducible refine HS.out _ ?_;first|(with_reducible assumption)|exact ag))
   (first
    |(go_at_call 88;(with_reducible refine(zW.out _ b0).mono ?_);rintro e w5 ⟨v5,rfl,zh,cx⟩;have Ze:ah W1 w5:=Below.trans' b0 cx aI;obtain⟨v6,w6,hrun,Ce,WO,U6⟩:=xJ (B:=W1.heap.size) (w:=w5) (es:=x.buf) (xs:=x.aF) ⟨zh⟩ (RH.out w5 Ze) af Ze.size 63;have bw6:ah W1 w6:=Below.grown Ze WO Ze.size (fun k hk=>((av.mk zh).lt k hk).1);obtain⟨s5,c5,rfl⟩:=(av.mk zh).isSlice;obtain⟨s6,c6,rfl⟩:=Ce.isSlice)
    |(refine xG rfl (.tmp 20) (.tmp 22) 63 63 rfl _ _ rfl rfl hrun ?_))
  all_goals
   go_wp2_with fail
   go_meet
   exact⟨Ce,bq,rfl,bw6⟩
 case rest=>
  obtain⟨hol,rfl,rfl,hbl⟩:=hcut
  obtain⟨ls,lc,rfl⟩:=hol.isSlice
  obtain⟨LL,Vc⟩:=bw (x.buf++x.aF)
  rw [Vc]at hol
  have agS:LL.length<=14:=by rw [<-Vc,eP];exact hsm
  have Zx:=hdd Vc
  obtain⟨A,hA⟩:=bw (LL.filter (aU lo hi))
  have ZF:=hdd hA
  have OW:=hdd (show gy t lo hi (f+1) (j:Int)=A++gD (fun k=>gy t lo hi f k) x lo hi x.kids 0 by
   rw [<-hA,<-Vc];show (match t.dn (j:Int) with|none=>_|some x=>_)=_;rw [HXX.out])
  clear hA hs0 b0 HS zW RH Og hsm
  have hA0:=hdd (rF.out.later hbl aI)
  have hT0:ej ob w wc:=(ej.of hb1 aI af).trans (ej.of hbl aI af)
  have hx0:wc.heap[w.heap.size]?=_:=(hbl.block _ af).trans k1
  have hrw:∀b,kL ob wc b->b<w.heap.size:=fun b ⟨u,h1,h2⟩=>(HA.out.row ⟨u,(hb1.block ob af).symm.trans ((hbl.block ob af).symm.trans h1),h2⟩).2
  have hwz:=hbl.size
  have KY:Mid w0 ob (.slice (some ⟨nb,gL,none⟩) t.nodes.length c) t.root lo hi w w.heap.size (some (.cells #[.bool x.leaf, .slice ae x.aF.length ne, .slice ak x.keys.length nk, .slice ad x.kids.length tT, .slice ab x.buf.length oZ] 119)) wc (ft P):=⟨hA0.out,hT0,hx0,⟨af,af⟩,fun b hb=>by have:=hrw b hb;omega⟩
  have PR:∀b,kL ob wc b->(Value.slice ls LL.length lc).ownBlock≠some b:=fun b hb h=>by have h1:=hrw b hb;have h2:=(hol.lt b h).1;omega
  rw [Vc]
  have HST:=hdd (aM KY (aM hol PR))
  have SJ:ob+2<W1.heap.size:=af
  clear hA0 hT0 hx0 PR hol hbl Vc k1 hrw KY
  go_wp2_with fail
  go_loopg [25] LL.length (fun g i wr=>∃k:Nat,k<=LL.length/\g=LL.length-k/\i = .int .i64 k/\Hid (Mid w0 ob (.slice (some ⟨nb,gL,none⟩) t.nodes.length c) t.root lo hi w w.heap.size (some (.cells #[.bool x.leaf, .slice ae x.aF.length ne, .slice ak x.keys.length nk, .slice ad x.kids.length tT, .slice ab x.buf.length oZ] 119)) wr (ft (P++(LL.take k).filter (aU lo hi)))/\av W1.heap.size wr (.slice ls LL.length lc) LL/\∀b,kL ob wr b->(Value.slice ls LL.length lc).ownBlock≠some b))
  case atStart=>exact⟨0,iN _,rfl,rfl,by have:=HST.out;exact hdd (by simpa using this)⟩
  case round=>
   clear HST
   obtain⟨k,hk,rfl,rfl,HR⟩:=hrel
   obtain⟨hM,ho,hr⟩:=HR.out
   by_cases jH:k<LL.length
   ·obtain⟨_,_,hv,-,-,-,-,h5⟩:=ho.at af
    injection hv with hv1 _ hv3
    subst hv3
    obtain⟨eb,bZ,lR,rW,nH⟩:=h5 af
    subst lR
    subst hv1
    obtain⟨y0,y1,y2,y3,y4,y5,y6⟩:=bR (aJ _ _) rW nH jH
    obtain⟨y,hy⟩:=bw (LL[k])
    rw [hy]at y0 y1 y2 y3 y4 y5 y6
    have HY:=hdd hy
    have hwz:w.heap.size<wr.heap.size:=hM.lt.2
    have hoz:ob+2<wr.heap.size:=hM.at_.size
    obtain⟨W8,mf⟩:=bQ (wr.alloc (.cells #[.int .i64 y.key, .int .i64 y.is.c, .int .i64 y.is.s, .int .i64 y.is.mi, .int .i64 y.is.ma, .int .i64 y.is.t, .int .i64 y.is.l] 96))
    have kZ:ah wr W8:=by rw [mf];exact ag
    have DN:W8.heap.size=wr.heap.size+1:=by rw [mf];simp
    have k8:W8.heap[wr.heap.size]?=some (.cells #[.int .i64 y.key, .int .i64 y.is.c, .int .i64 y.is.s, .int .i64 y.is.mi, .int .i64 y.is.ma, .int .i64 y.is.t, .int .i64 y.is.l] 96):=by rw [mf];exact aq _ _ rfl
    have OD:=hM.later kZ aI
    obtain⟨QW,hr8⟩:=hM.list (ej.of kZ aI af) SJ ho hr
    have htk:(LL.take (k+1)).filter (aU lo hi)=(LL.take k).filter (aU lo hi)++(if aU lo hi y=true then [y]else []):=by
     rw [mn jH,hy,sw]
     by_cases h:aU lo hi y=true
     ·rw [ar h,tN h];rfl
     ·rw [ai h,sx h];rfl
    have Bv:=hdd htk
    have fe:=hdd (aM OD (aM QW hr8))
    have kS:=fun w'=>dD (ab:=eb) (aY:=bZ) (n:=LL.length) (cap:=lc) (show (k:Int)=((k:Nat):Int) by rfl) jH w'
    obtain⟨s0,s1,s2,s3,s4,s5,s6⟩:W8.cell? ⟨wr.heap.size,0,none⟩=some (.int .i64 y.key)/\W8.cell? ⟨wr.heap.size,1,none⟩=some (.int .i64 y.is.c)/\W8.cell? ⟨wr.heap.size,2,none⟩=some (.int .i64 y.is.s)/\W8.cell? ⟨wr.heap.size,3,none⟩=some (.int .i64 y.is.mi)/\W8.cell? ⟨wr.heap.size,4,none⟩=some (.int .i64 y.is.ma)/\W8.cell? ⟨wr.heap.size,5,none⟩=some (.int .i64 y.is.t)/\W8.cell? ⟨wr.heap.size,6,none⟩=some (.int .i64 y.is.l):=by simp [World.cell?,k8]
    have cl:W8.cell? ⟨w0.heap.size+1,0,none⟩=some (.int .i64 lo):=by simp [World.cell?,OD.at_.low]
    have ch:W8.cell? ⟨w0.heap.size+2,0,none⟩=some (.int .i64 hi):=by simp [World.cell?,OD.at_.high]
    have ce:W8.cell? ⟨ob+1,0,none⟩=some (.int .i64 (if (ft (P++(LL.take k).filter (aU lo hi))).isSome then 0 else 1)):=by simp [World.cell?,OD.at_.err]
    go_upto_region 4 with (fail)
    rw [<-mf]
    clear hM ho hr mf OD QW hr8 htk nH h5 hy y0 y1 y2 y3 y4 y5 y6 k8 kS HR
    by_cases i1:lo<=y.key
    ·by_cases i2:y.key<hi
     ·have hin:aU lo hi y=true:=by simp [aU,i1,i2]
      rw [ar hin]at Bv
      have HG:=hdd (show dY (P++A) by have:=X8.out;rw [OW.out,<-jn]at this;exact this.left)
      have ZA:=hdd (show dY (P++(LL.take k).filter (aU lo hi)) by
       have:=HG.out
       rw [<-ZF.out,<-wG k LL,sw,<-jn]at this
       exact this.left)
      have HYA:=hdd (show y∈P++A by
       rw [<-ZF.out];simp only [kI,js];right;exact⟨by rw [<-HY.out];exact fO jH,hin⟩)
      cases hbg:ft (P++(LL.take k).filter (aU lo hi)) with
      |none=>
       rw [hbg]at ce
       have HN:=hdd (show ft (P++(LL.take (k+1)).filter (aU lo hi))=ft (P++(LL.take k).filter (aU lo hi)) by
        rw [hbg,Bv.out,<-jn];exact Br hbg)
       simp only [Option.isSome_none]at ce
       clear hbg hin
       go_wp2
       go_roundg (LL.length-(k+1))
       case measure=>omega
       case rel=>exact⟨k+1,af,rfl,by go_num,by have:=fe.out;rw [<-HN.out]at this;exact hdd this⟩
      |some es=>
       rw [hbg]at ce
       have OD:=fe.out.1
       obtain⟨v,o1,o2,o3⟩:=OD.at_.out
       have hov:=o3 es hbg
       obtain⟨g1,g2,g3,g4⟩:=pO ZA.out hbg
       obtain⟨vs,vc,rfl⟩:=hov.isSlice
       have afO:ob+2<W8.heap.size:=OD.at_.size
       have HM:=hdd (tz (B:=ob+3) hov af af g1 g2 (HG.out.1 y HYA.out).2 g3 (HG.out.2.1 y HYA.out))
       have Ff:=hdd (show ft (P++(LL.take (k+1)).filter (aU lo hi))=jG es y by rw [Bv.out,<-jn,Bq,hbg];rfl)
       have Vz:=hdd fun w6 (OC:aw (fun b=>(Value.slice vs es.length vc).ownBlock=some b) W8 w6)=>(by
        have h1:w6.heap[ob]?=_:=(OC.block ob af (fun h=>by have:=(o2 _ h).1;omega)).trans o1
        have h2:w6.heap[ob+1]?=_:=(OC.block (ob+1) af (fun h=>by have:=(o2 _ h).1;omega)).trans OD.at_.err
        simp [World.frozen?,World.cell?,h1,h2]:w6.frozen? ⟨ob,0,none⟩=false/\w6.frozen? ⟨ob+1,0,none⟩=false/\w6.cell? ⟨ob,0,none⟩=some (.slice vs es.length vc)/\w6.cell? ⟨ob+1,0,none⟩=some (.int .i64 (if (ft (P++(LL.take k).filter (aU lo hi))).isSome then 0 else 1)))
       have K3:=hdd o1
       have co:W8.cell? ⟨ob,0,none⟩=some (.slice vs es.length vc):=by simp [World.cell?,o1]
       have zZ:=hdd fun w6 st' v' (E:Int) (OC:aw (fun b=>(Value.slice vs es.length vc).ownBlock=some b) W8 w6) (hv':∀b,v'.ownBlock=some b->(Value.slice vs es.length vc).ownBlock=some b\/W8.heap.size<=b) (hE:E=if (st':Option (List aA)).isSome then 0 else 1) (hl:∀b,v'.ownBlock=some b->b<w6.heap.size) (hO:∀es,st'=some es->av (ob+3) w6 v' es) (hst:ft (P++(LL.take (k+1)).filter (aU lo hi))=st')=>(by
        obtain⟨q1,q2,-⟩:=jX.stored fe.out.1.at_ K3.out OC hv' hE hl hO
        rw [hst]
        exact⟨fe.out.1.next q1 q2,fe.out.1.list q2 SJ fe.out.2.1 fe.out.2.2⟩ :
        Mid w0 ob (.slice (some ⟨nb,gL,none⟩) t.nodes.length c) t.root lo hi w w.heap.size (some (.cells #[.bool x.leaf, .slice ae x.aF.length ne, .slice ak x.keys.length nk, .slice ad x.kids.length tT, .slice ab x.buf.length oZ] 119)) ((w6.setCell ⟨ob,0,none⟩ v').setCell ⟨ob+1,0,none⟩ (.int .i64 E)) (ft (P++(LL.take (k+1)).filter (aU lo hi)))/\av W1.heap.size ((w6.setCell ⟨ob,0,none⟩ v').setCell ⟨ob+1,0,none⟩ (.int .i64 E)) (.slice (some ⟨eb,bZ,none⟩) LL.length lc) LL/\∀b,kL ob ((w6.setCell ⟨ob,0,none⟩ v').setCell ⟨ob+1,0,none⟩ (.int .i64 E)) b->(Value.slice (some ⟨eb,bZ,none⟩) LL.length lc).ownBlock≠some b)
       clear OD o1 o2 o3 hov g1 g2 g3 g4 hbg hin
       simp only [Option.isSome_some,if_true]at ce
       cases hI:jG es y with
       |none=>
        rw [hI]at HM Ff
        clear hI
        go_wp2_with ((go_at_call 89;(with_reducible refine HM.out.mono ?_);rintro e w6 ⟨OC,rfl,Ce⟩;obtain⟨f0,f1,f2,f3⟩:=Vz.out _ OC;have U6:=fun b hb=>(Ce.lt b hb).2))
        go_roundg (LL.length-(k+1))
        case measure=>omega
        case rel=>exact⟨k+1,af,rfl,by go_num,hdd (zZ.out w6 none _ 1 OC (fun b hb=> .inl hb) rfl U6 (fun _ h=>by cases h) Ff.out)⟩
       |some es'=>
        rw [hI]at HM Ff
        clear hI
        go_wp2_with ((go_at_call 89;(with_reducible refine HM.out.mono ?_);rintro e w6 ⟨OC,v6,rfl,Ce,hv6⟩;obtain⟨f0,f1,f2,f3⟩:=Vz.out _ OC;have U6:=fun b hb=>(Ce.lt b hb).2;obtain⟨s6,c6,rfl⟩:=Ce.isSlice))
        go_roundg (LL.length-(k+1))
        case measure=>omega
        case rel=>exact⟨k+1,af,rfl,by go_num,hdd (zZ.out w6 (some es') _ 0 OC hv6 rfl U6 (fun _ h=>by cases h;exact Ce) Ff.out)⟩
     ·have HN:=hdd (show ft (P++(LL.take (k+1)).filter (aU lo hi))=ft (P++(LL.take k).filter (aU lo hi)) by
       rw [Bv.out,ai (by simp [aU];omega),nM])
      have UT:hi<=y.key:=af
      clear i2
      go_wp2
      go_roundg (LL.length-(k+1))
      case measure=>omega
      case rel=>exact⟨k+1,af,rfl,by go_num,by have:=fe.out;rw [<-HN.out]at this;exact hdd this⟩
    ·have HN:=hdd (show ft (P++(LL.take (k+1)).filter (aU lo hi))=ft (P++(LL.take k).filter (aU lo hi)) by
      rw [Bv.out,ai (by simp [aU];omega),nM])
     have i1':y.key<lo:=af
     clear i1
     go_wp2
     go_roundg (LL.length-(k+1))
     case measure=>omega
     case rel=>exact⟨k+1,af,rfl,by go_num,by have:=fe.out;rw [<-HN.out]at this;exact hdd this⟩
   ·obtain rfl:k=LL.length:=af
    rw [kJ aI,ZF.out]at hM
    obtain⟨hk4,hkk,xZ⟩:=Jf HV.out HXX.out
    have HM:=hdd hM
    have HKV:=hdd xZ
    have SY:x.kids.length<1000:=af
    have acx:=hdd hkk
    have hx3:wr.cell? ⟨w.heap.size,3,none⟩=some (.slice ad x.kids.length tT):=by simp [World.cell?,hM.node]
    have hPA:=hdd (show dY (P++(A++gD (fun k=>gy t lo hi f k) x lo hi x.kids 0)) by have:=X8.out;rw [OW.out]at this;exact this)
    clear hM ho hr HR hkk xZ hk4 SJ ZF Zx
    go_wp2_with fail
    clear hx3
    go_loopg [53] x.kids.length (fun g i wr=>∃m:Nat,m<=x.kids.length/\g=x.kids.length-m/\i = .int .i64 m/\Hid (Mid w0 ob (.slice (some ⟨nb,gL,none⟩) t.nodes.length c) t.root lo hi w w.heap.size (some (.cells #[.bool x.leaf, .slice ae x.aF.length ne, .slice ak x.keys.length nk, .slice ad x.kids.length tT, .slice ab x.buf.length oZ] 119)) wr (ft (P++(A++gD (fun k=>gy t lo hi f k) x lo hi (x.kids.take (m)) 0)))))
    case atStart=>exact⟨0,iN _,rfl,rfl,by have:=HM.out;exact hdd (by simpa [gD] using this)⟩
    case round=>
     clear HM
     obtain⟨m,hm,rfl,rfl,HR⟩:=hrel
     have hM:=HR.out
     have hA:=hM.at_
     by_cases jH:m<x.kids.length
     ·obtain⟨K,hK⟩:∃K,x.kids[m]?=some K:=⟨x.kids[m],by simp [jH]⟩
      obtain⟨kb,Ai,VX,ke,hkb,hkc⟩:=gu.get (HDD.out.below hA.below aI) hK
      injection ke with VW _ VT
      subst VW VT
      have WK:x.keys.length+1=x.kids.length:=acx.out (by rintro h;rw [h]at jH;simp at jH)
      have kS:=fun w'=>lQ (ab:=kb) (aY:=Ai) (n:=x.kids.length) (cap:=tT) (show (m:Int)=((m:Nat):Int) by rfl) jH w'
      obtain⟨x2,x3⟩:wr.cell? ⟨w.heap.size,2,none⟩=some (.slice ak x.keys.length nk)/\wr.cell? ⟨w.heap.size,3,none⟩=some (.slice (some ⟨kb,Ai,none⟩) x.kids.length tT):=by simp [World.cell?,hM.node]
      have cl:wr.cell? ⟨w0.heap.size+1,0,none⟩=some (.int .i64 lo):=by simp [World.cell?,hA.low]
      have ch:wr.cell? ⟨w0.heap.size+2,0,none⟩=some (.int .i64 hi):=by simp [World.cell?,hA.high]
      have HKEY:=hdd fun(i:Nat) (y:Int) (hy:x.keys[i]?=some y)=>gu.get (Bx.out.below hA.below aI) hy
      have Fh:=hdd (Gg (go:=fun k=>gy t lo hi f k) (lo:=lo) (hi:=hi) hK)
      have HKR:=hdd (Gi (go:=fun k=>gy t lo hi f k) (x:=x) (lo:=lo) (hi:=hi) (m+1))
      have acu:=hdd (HKV.out m K hK)
      obtain⟨kl,hkl⟩:=bw (x.keys.length)
      rw [hkl]at WK x2 HKEY
      have Yh:=hdd hkl
      have ads:m<=kl:=af
      have adr:kl<1000:=af
      clear hM hA hK WK hkl
      go_upto_region 10 with (fail)
      go_cut [85] (fun c wx=>c = .bool (ij x lo hi m)/\ah wr wx)
      case first=>
       clear kS hkc hkb x3
       by_cases m0:m=0
       ·have ez:((m:Int) == 0)=true:=by simp;omega
        by_cases ml:m=kl
        ·have HG:=hdd (show ij x lo hi m=true from pT (fun h=>absurd m0 h) (fun h=>absurd (ml.trans Yh.out.symm) h))
         have em:((m:Int) == (kl:Int))=true:=by simp;omega
         clear HKEY m0 ml
         go_quiet (fail)
         go_wp2
         go_meet
         exact⟨by rw [HG.out],ag⟩
        ·obtain⟨T,hT⟩:∃T,x.keys[m]?=some T:=⟨x.keys[m]'(by rw [Yh.out];omega),bq⟩
         obtain⟨b2,LV,cap2,e2,hb2,hc2⟩:=HKEY.out m T hT
         injection e2 with f1 _ f3
         subst f1 f3
         have CJ:m<kl:=af
         have JX:=fun w'=>lQ (ab:=b2) (aY:=LV) (n:=kl) (cap:=nk) (show (m:Int)=((m:Nat):Int) by rfl) CJ w'
         have em:((m:Int) == (kl:Int))=false:=by simp;omega
         by_cases i2:lo<T
         ·have HG:=hdd (show ij x lo hi m=true from pT (fun h=>absurd m0 h) (fun _=>⟨T,hT,i2⟩))
          have et:decide (lo<T)=true:=by simp [i2]
          clear hT HKEY i2 m0 ml
          go_quiet (fail)
          go_wp2
          go_meet
          exact⟨by rw [HG.out],ag⟩
         ·have HG:=hdd (show ij x lo hi m=false from zu hT i2)
          have et:decide (lo<T)=false:=by simp;omega
          clear hT HKEY i2 m0 ml
          go_quiet (fail)
          go_wp2
          go_meet
          exact⟨by rw [HG.out],ag⟩
       ·have ez:((m:Int) == 0)=false:=by simp;omega
        obtain⟨F,hF⟩:∃F,x.keys[m-1]?=some F:=⟨x.keys[m-1]'(by rw [Yh.out];omega),bq⟩
        obtain⟨b1,VK,ahb,e1,pj,hc1⟩:=HKEY.out (m-1) F hF
        injection e1 with f1 _ f3
        subst f1 f3
        have hw1:IntKind.i64.wrap ((m:Int)-1)=(m:Int)-1:=IntWalk.i64_in _ af
        have S4:=fun w'=>lQ (ab:=b1) (aY:=VK) (n:=kl) (cap:=nk) (show (m:Int)-1=((m-1:Nat):Int) by omega) af w'
        by_cases i1:F<hi
        ·have ef:decide (F<hi)=true:=by simp [i1]
         by_cases ml:m=kl
         ·have HG:=hdd (show ij x lo hi m=true from pT (fun _=>⟨F,hF,i1⟩) (fun h=>absurd (ml.trans Yh.out.symm) h))
          have em:((m:Int) == (kl:Int))=true:=by simp;omega
          clear hF HKEY m0 ml i1
          go_quiet (fail)
          go_wp2
          go_meet
          exact⟨by rw [HG.out],ag⟩
         ·obtain⟨T,hT⟩:∃T,x.keys[m]?=some T:=⟨x.keys[m]'(by rw [Yh.out];omega),bq⟩
          obtain⟨b2,LV,cap2,e2,hb2,hc2⟩:=HKEY.out m T hT
          injection e2 with f1 _ f3
          injection f1 with f1
          injection f1 with f1 f2
          subst f1 f2 f3
          have CJ:m<kl:=af
          have JX:=fun w'=>lQ (ab:=b1) (aY:=VK) (n:=kl) (cap:=nk) (show (m:Int)=((m:Nat):Int) by rfl) CJ w'
          have em:((m:Int) == (kl:Int))=false:=by simp;omega
          by_cases i2:lo<T
          ·have HG:=hdd (show ij x lo hi m=true from pT (fun _=>⟨F,hF,i1⟩) (fun _=>⟨T,hT,i2⟩))
           have et:decide (lo<T)=true:=by simp [i2]
           clear hT hF HKEY i1 i2 m0 ml
           go_quiet (fail)
           go_wp2
           go_meet
           exact⟨by rw [HG.out],ag⟩
          ·have HG:=hdd (show ij x lo hi m=false from zu hT i2)
           have et:decide (lo<T)=false:=by simp;omega
           clear hT hF HKEY i1 i2 m0 ml
           go_quiet (fail)
           go_wp2
           go_meet
           exact⟨by rw [HG.out],ag⟩
        ·have HG:=hdd (show ij x lo hi m=false from GN m0 hF i1)
         have ef:decide (F<hi)=false:=by simp;omega
         clear hF HKEY m0 i1
         go_quiet (fail)
         go_wp2
         go_meet
         exact⟨by rw [HG.out],ag⟩
      case rest=>
       obtain⟨rfl,hbc⟩:=hcut
       have hM:=HR.out.later hbc aI
       have Oc:=hdd hM
       have cw:wc.cell? ⟨ob+2,0,none⟩=some (.func (.func 87) #[] #[.pointer (some ⟨w0.heap.size,0,none⟩), .pointer (some ⟨w0.heap.size+1,0,none⟩), .pointer (some ⟨w0.heap.size+2,0,none⟩), .pointer (some ⟨ob+1,0,none⟩), .pointer (some ⟨ob,0,none⟩), .pointer (some ⟨ob+2,0,none⟩)]):=by simp [World.cell?,hM.at_.walk]
       clear hM x2 x3 cl ch kS hkc hkb hbc
       cases hg:ij x lo hi m with
       |false=>
        have Qy:=hdd (show gD (fun k=>gy t lo hi f k) x lo hi (x.kids.take (m+1)) 0=gD (fun k=>gy t lo hi f k) x lo hi (x.kids.take m) 0 by rw [Fh.out,ai (by simp [hg]),nM])
        clear hg
        go_wp2
        go_roundg (x.kids.length-(m+1))
        case measure=>omega
        case rel=>exact⟨m+1,af,rfl,by go_num,by have:=Oc.out;rw [<-Qy.out]at this;exact hdd this⟩
       |true=>
        have Qy:=hdd (show gD (fun k=>gy t lo hi f k) x lo hi (x.kids.take (m+1)) 0=gD (fun k=>gy t lo hi f k) x lo hi (x.kids.take m) 0++gy t lo hi f K by rw [Fh.out,ar hg])
        have HPG:=hdd (show dY ((P++(A++gD (fun k=>gy t lo hi f k) x lo hi (x.kids.take m) 0))++gy t lo hi f K) by
         obtain⟨R,hR⟩:=HKR.out
         have:=hPA.out
         rw [hR,Qy.out]at this
         simp only [<-jn]at this ⊢
         exact this.left)
        obtain⟨a',b',l',h',hvk⟩:=acu.out
        have lg:=hdd (Uy.out K a' b' l' h' _ wc hvk HPG.out Oc.out.at_)
        have zZ:=hdd fun w5 (qq:ej ob wc w5) (Tq:jX w0 ob (.slice (some ⟨nb,gL,none⟩) t.nodes.length c) t.root lo hi w5 (ft ((P++(A++gD (fun k=>gy t lo hi f k) x lo hi (x.kids.take m) 0))++gy t lo hi f K)))=>(by
         have:=Oc.out.next Tq qq
         rw [jn,jn,<-Qy.out]at this
         exact this:Mid w0 ob (.slice (some ⟨nb,gL,none⟩) t.nodes.length c) t.root lo hi w w.heap.size (some (.cells #[.bool x.leaf, .slice ae x.aF.length ne, .slice ak x.keys.length nk, .slice (some ⟨kb,Ai,none⟩) x.kids.length tT, .slice ab x.buf.length oZ] 119)) w5 (ft (P++(A++gD (fun k=>gy t lo hi f k) x lo hi (x.kids.take (m+1)) 0))))
        clear hg hvk
        go_wp2_with ((go_at_call 87;(with_reducible refine lg.out.mono ?_);rintro e w5 ⟨rfl,qq,Tq⟩))
        go_roundg (x.kids.length-(m+1))
        case measure=>omega
        case rel=>exact⟨m+1,af,rfl,by go_num,hdd (zZ.out _ qq Tq)⟩
     ·obtain rfl:m=x.kids.length:=af
      rw [kJ aI,<-OW.out]at hM
      have HM:=hdd hM
      clear hM hA HR
      go_wp2
      go_end0
      exact⟨rfl,HM.out.turn,HM.out.at_⟩
end
section
set_option maxRecDepth 100000
set_option maxHeartbeats 1000000
variable {lo hi:Int} {t:Tr}
theorem xB {t:Tr} {tv:Value} {w0:World} (hn:bu w0 tv t.nodes) {ob:Nat} {lo hi:Int}:∀(f:Nat) (n a b:Int) (l:List Int) (h:Nat) (P:List aA) (w:World),mK t f n a b=some (l,h)->dY (P++gy t lo hi f n)->jX w0 ob tv t.root lo hi w (ft P) ->
   Calls Tryd.prog 87 #[.int .i64 n, .pointer (some ⟨w0.heap.size,0,none⟩), .pointer (some ⟨w0.heap.size+1,0,none⟩), .pointer (some ⟨w0.heap.size+2,0,none⟩), .pointer (some ⟨ob+1,0,none⟩), .pointer (some ⟨ob,0,none⟩), .pointer (some ⟨ob+2,0,none⟩)] w fun e w'=>e = .returned (.tuple #[])/\ej ob w w'/\jX w0 ob tv t.root lo hi w' (ft (P++gy t lo hi f n))
 |0,_,_,_,_,_,_,_,hv,_,_=>by cases hv
 |f+1,n,a,b,l,h,P,w,hv,hP,hA=>Cu hn (fun n a b l h P w hv hP hA=>xB hn f n a b l h P w hv hP hA) hv hP hA
theorem Jd (h1:t.nodes.length<=2000) (hv:lL t):dY (gy t lo hi 12 t.root):=by
 have hc:=cz hv
 have hr:=lU hv
 have hl:=AJ hv
 obtain⟨l,h,e,hn,hl2⟩:=hv
 have hp:=(pG (lo:=lo) (hi:=hi) _ _ _ _ _ _ e).1
 have hq:=(lq e hn hl2).filter (aU lo hi)
 have hpq:=hp.trans hq
 refine⟨fun e he=>hc e ((js.1 (hpq.mem_iff.1 he)).1),fun e he=>hr e ((js.1 (hpq.mem_iff.1 he)).1),?_⟩
 have h2:=hpq.length_eq
 have h3:=tO (aU lo hi) t.all
 omega
theorem AO (w:World) (o1 o2 o3:Obj):(((w.alloc o1).alloc o2).alloc o3).heap[w.heap.size]?=some o1/\(((w.alloc o1).alloc o2).alloc o3).heap[w.heap.size+1]?=some o2/\(((w.alloc o1).alloc o2).alloc o3).heap[w.heap.size+2]?=some o3:=by
 have a1:∀(w:World) (o:Obj),(w.alloc o).heap[w.heap.size]?=some o:=fun w o=>aq _ _ rfl
 have a2:∀(w:World) (o:Obj) (b:Nat),b<w.heap.size->(w.alloc o).heap[b]?=w.heap[b]?:=fun w o b h=>((aJ w.heap.size w).alloc aI o).block b h
 have sz:∀(w:World) (o:Obj),(w.alloc o).heap.size=w.heap.size+1:=fun w o=>bq
 refine⟨?_,?_,?_⟩
 ·rw [a2 _ _ _ (by rw [sz,sz];omega),a2 _ _ _ (by rw [sz];omega)];exact a1 _ _
 ·rw [a2 _ _ _ (by rw [sz,sz];omega)]
  have:=a1 (w.alloc o1) o2
  rw [sz]at this;exact this
 ·have:=a1 ((w.alloc o1).alloc o2) o3
  rw [sz,sz]at this;exact this
theorem iK {v:Value} {w:World} (h:bL w v t) :
  Calls Tryd.prog 55 #[v, .int .i64 lo, .int .i64 hi] w (n9 w.heap.size w (ax t) (kH t lo hi)):=by
 obtain⟨nv,rfl,hn⟩:=h
 obtain⟨⟨ao,cap,rfl⟩,hlen⟩:=hn.len
 obtain⟨W0,hW0⟩:=bQ (((w.alloc (.cells #[.slice ao t.nodes.length cap, .int .i64 t.root] 32)).alloc (.cells #[.int .i64 lo] 3)).alloc (.cells #[.int .i64 hi] 3))
 have hb0:ah w W0:=by rw [hW0];exact ag
 have hz0:W0.heap.size=w.heap.size+3:=by rw [hW0];simp
 have YS:∀(fn:Fn) (first cap:Array Value) (w:World),(Instr.makeFunc fn first cap).run Tryd.prog w = .ok (.func fn first cap) w:=fun _ _ _ _=>rfl
 have HK:=hdd (by rw [hW0];exact AO _ _ _ _ :
  W0.heap[w.heap.size]?=some (.cells #[.slice ao t.nodes.length cap, .int .i64 t.root] 32)/\W0.heap[w.heap.size+1]?=some (.cells #[.int .i64 lo] 3)/\W0.heap[w.heap.size+2]?=some (.cells #[.int .i64 hi] 3))
 have iB:=hdd (jr (t:=t) (w:=W0) (v:= .agg #[.slice ao t.nodes.length cap, .int .i64 t.root]) ⟨_,rfl,hn.below hb0 aI⟩)
 have HN:=hdd hn
 obtain⟨c0,c1⟩:W0.cell? ⟨w.heap.size,0,none⟩=some (.slice ao t.nodes.length cap)/\W0.cell? ⟨w.heap.size,1,none⟩=some (.int .i64 t.root):=by simp [World.cell?,HK.out.1]
 clear hn
 go_enter Tryd.func55,Tryd.ntmps55
 go_upto_region 1 with (fail)
 rw [<-hW0]
 clear hW0
 by_cases hf:ax t=0
 ·rw [hf]at iB
  have HV:=hdd (cW hf)
  have Ym:=hdd hf
  go_upto_region 4 with ((go_at_call 73;(with_reducible refine iB.out.mono ?_);rintro e w1 ⟨rfl,hb1⟩))
  have hz1:w.heap.size+3<=w1.heap.size:=by have:=hb1.size;omega
  obtain⟨W9,je⟩:=bQ (((w1.alloc (.cells #[.slice none 0 0] 63)).alloc (.cells #[.int .i64 0] 36)).alloc (.cells #[(.func (.func 87) #[] #[.pointer (some ⟨w.heap.size,0,none⟩), .pointer (some ⟨w.heap.size+1,0,none⟩), .pointer (some ⟨w.heap.size+2,0,none⟩), .pointer (some ⟨w1.heap.size+1,0,none⟩), .pointer (some ⟨w1.heap.size,0,none⟩), .pointer (some ⟨w1.heap.size+2,0,none⟩)])] 140))
  have oO:ah w1 W9:=by rw [je];exact ag
  have PI:W9.heap.size=w1.heap.size+3:=by rw [je];simp
  obtain⟨n1,n2,n3⟩:=(by rw [je];exact AO _ _ _ _ :
   W9.heap[w1.heap.size]?=some (.cells #[.slice none 0 0] 63)/\W9.heap[w1.heap.size+1]?=some (.cells #[.int .i64 0] 36)/\W9.heap[w1.heap.size+2]?=some (.cells #[(.func (.func 87) #[] #[.pointer (some ⟨w.heap.size,0,none⟩), .pointer (some ⟨w.heap.size+1,0,none⟩), .pointer (some ⟨w.heap.size+2,0,none⟩), .pointer (some ⟨w1.heap.size+1,0,none⟩), .pointer (some ⟨w1.heap.size,0,none⟩), .pointer (some ⟨w1.heap.size+2,0,none⟩)])] 140))
  have M5:ah W0 W9:=Below.trans' hb1 oO hb1.size
  have m0:W9.heap[w.heap.size]?=_:=(M5.block _ af).trans HK.out.1
  have HA:=hdd (show jX w w1.heap.size (.slice ao t.nodes.length cap) t.root lo hi W9 (ft []) from
   ⟨Below.trans' hb0 M5 hb0.size,af,af,m0,(M5.block _ af).trans HK.out.2.1,(M5.block _ af).trans HK.out.2.2,n2,n3,_,n1,fun b h=>by simp [Value.ownBlock]at h,fun es h=>by
    have:es=[]:=by simpa [ft] using h.symm
    subst this;exact av.nil _ _⟩)
  have PL:=HV.out.2
  obtain⟨l,h,Gr,-,-⟩:=PL
  have lg:=hdd (xB HN.out (ob:=w1.heap.size) (lo:=lo) (hi:=hi) 12 t.root _ _ _ _ [] W9 Gr (by rw [List.nil_append];exact Jd HV.out.1 HV.out.2) HA.out)
  rw [List.nil_append,all_eq HV.out.2]at lg
  have d1:W9.cell? ⟨w.heap.size,1,none⟩=some (.int .i64 t.root):=by simp [World.cell?,m0]
  have d2:W9.cell? ⟨w1.heap.size+2,0,none⟩=some (.func (.func 87) #[] #[.pointer (some ⟨w.heap.size,0,none⟩), .pointer (some ⟨w.heap.size+1,0,none⟩), .pointer (some ⟨w.heap.size+2,0,none⟩), .pointer (some ⟨w1.heap.size+1,0,none⟩), .pointer (some ⟨w1.heap.size,0,none⟩), .pointer (some ⟨w1.heap.size+2,0,none⟩)]):=by simp [World.cell?,n3]
  have H0:=hdd fun w5 st (ha:jX w w1.heap.size (.slice ao t.nodes.length cap) t.root lo hi w5 st)=>(by
   obtain⟨v,o1,o2,o3⟩:=ha.out
   exact⟨v,by simp [World.cell?,o1],by simp [World.cell?,ha.err],ha.below,o3⟩ :
   ∃v,w5.cell? ⟨w1.heap.size,0,none⟩=some v/\w5.cell? ⟨w1.heap.size+1,0,none⟩=some (.int .i64 (if st.isSome then 0 else 1))/\ah w w5/\∀es,st=some es->av (w1.heap.size+3) w5 v es)
  go_upto_region 8 with (fail)
  rw [show w.heap.size+1+1=w.heap.size+2 from rfl,show w1.heap.size+1+1=w1.heap.size+2 from rfl,<-je]
  clear je n1 n2 n3 m0 M5 oO c0 c1 Gr HA hf
  cases hr:kH t lo hi with
  |none=>
   rw [hr]at lg
   have HR:=hdd hr
   clear hr
   go_upto_region 10 with ((go_at_call 87;(with_reducible refine lg.out.mono ?_);rintro e w5 ⟨rfl,-,Tq⟩;obtain⟨v5,e0,e1,cx,-⟩:=H0.out _ _ Tq;simp only [Option.isSome_none]at e1))
   go_quiet (fail)
   go_wp2
   exact bodyPost_ret (v:= .tuple #[.slice none 0 0, .int .i64 1]) (by simp [results,Tryd.results55,go_sem, *]) rfl ⟨ag,fun h=>absurd Ym.out h,fun _=>by rw [HR.out]⟩
  |some es=>
   rw [hr]at lg
   have HR:=hdd hr
   clear hr
   go_wp2_with ((go_at_call 87;(with_reducible refine lg.out.mono ?_);rintro e w5 ⟨rfl,-,Tq⟩;obtain⟨v5,e0,e1,cx,iD⟩:=H0.out _ _ Tq;simp only [Option.isSome_some,if_true]at e1;have Ce:=(iD es rfl).mono (show w.heap.size<=w1.heap.size+3 by omega);obtain⟨s5,c5,rfl⟩:=Ce.isSlice))
   exact bodyPost_ret (v:= .tuple #[.slice s5 es.length c5, .int .i64 0]) (by simp [results,Tryd.results55,go_sem, *]) rfl ⟨ag,fun h=>absurd Ym.out h,fun _=>by rw [HR.out];exact⟨_,rfl,(by repeat (first|assumption|with_reducible refine av.alloc ?_ _|with_reducible refine av.drewN ?_ _|with_reducible refine av.drew ?_))⟩⟩
 ·have d2:(ax t != 0)=true:=by simp [hf]
  obtain⟨F,hF⟩:=bw (ax t)
  have HF1:=hdd hF
  have OZ:=hdd hf
  rw [hF]at iB d2
  clear hF hf
  go_wp2_with ((go_at_call 73;(with_reducible refine iB.out.mono ?_);rintro e w1 ⟨rfl,hb1⟩;have di:=Below.trans' hb0 hb1 hb0.size))
  exact bodyPost_ret (v:= .tuple #[.slice none 0 0, .int .i64 F]) (by simp [results,Tryd.results55,go_sem, *]) rfl ⟨ag,fun _=>by rw [HF1.out],fun h=>absurd h OZ.out⟩
end
end Go.Proofs.YtmljjfhgciaceaaDoor
