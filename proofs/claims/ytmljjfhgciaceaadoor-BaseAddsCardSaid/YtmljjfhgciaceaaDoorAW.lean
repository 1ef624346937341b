/- Texts of mine that come as one: AllA AllB AllK AllW AllM. -/
import Derived.Test.YtmljjfhgciaceaaDoorHd
import Derived.Test.YtmljjfhgciaceaaDoorMerged
import Derived.Test.YtmljjfhgciaceaaDoorPA
import Derived.Test.YtmljjfhgciaceaaDoorKG
import Derived.Laws.OwnMore
import Derived.Test.YtmljjfhgciaceaaDoorNC
import Derived.BigQuiet
import Derived.Deep.QuietTactic
import Derived.Deep.CutBlock
import Derived.Deep.RegionHeld3
import Derived.Test.YtmljjfhgciaceaaDoorSX
import Derived.Laws.EntriesVeiled
namespace Go.Proofs.YtmljjfhgciaceaaDoor
open Go.RowKit
section
set_option maxRecDepth 100000
variable {B ob b:Nat} {st:Option (List aC)} {tv:Value} {w w' w0:World}
theorem xY {v vx:Value} {es xs:List aC} (ho:au B w v es) (hx:fu w vx xs) (h1:es.length+xs.length<=1000000) (hB:B<=w.heap.size) (ty:TypeId) :
  ∃v' w',(Builtin.append_ #[63,63] ty #[v,vx]).run Tryd.prog w = .ok v' w'/\au B w' v' (es++xs)/\w.grownBy w' v.ownBlock/\(v'.ownBlock=v.ownBlock\/v'.ownBlock=some w.heap.size):=by
 obtain⟨i0,z,hi0,hz,hz1,hz2,hz3⟩:=cj Tryd.GH
 have h:=hx
 obtain⟨ao,cap,rfl,a1,a2,a3,a4,a5⟩:=hx
 cases ao with
 |none=>
  have h0:xs.length=0:=by have:=a4 rfl;omega
  obtain rfl:=wO h0
  obtain rfl:cap=0:=a4 rfl
  refine⟨v,w,run_append_owned_none w B 63 ty 96 i0 7 Tryd.underlying63 hi0 v es.length _ ho.row,by simpa using ho,⟨rfl,rfl,rfl,km _,fun _ _ _=>rfl⟩, .inl rfl⟩
 |some ad=>
  obtain⟨_,g1,g2⟩:=h.news cX
  obtain⟨v',w',hr,h2,h3,_,h5⟩:=run_append_own_at (P:=Tryd.prog) w B 63 ty 96 i0 z 7 56 Tryd.underlying63 hi0 hz hz1 hz2 hz3 aW v es.length _ ho.row ad xs.length cap (xs.flatMap aZ) g1 g2 (jc xs) (by unfold maxLen;omega) af hB
  refine⟨v',w',hr,⟨?_⟩,h3,h5⟩
  rw [tR,dO];exact h2
theorem xU {P:Program} {ops:Array Oper} {o:Oper} {a:Act} {K:Act->World->Prop} {Q:Exit->Act->World->Prop} {E:Prop}
  (hg:o.guard=none) (d x:Operand) (dT sT:TypeId) (hop:o.op=Op.call { callee:=Callee.builtin Builtin.append,args:=#[d,x],argTypes:=#[dT,sT] })
  (v u:Value) (hd:a.eval d=v) (hx:a.eval x=u) {v':Value} (hr:(Builtin.append_ #[dT,sT] o.type #[v,u]).run P w = .ok v' w') (hK:K (a.put o.dst v') w') :
  if Region.wanted o (yielded ops a.tmps)=true then Oper.wp P o a w K Q else E:=by
 have hw:Region.wanted o (yielded ops a.tmps)=true:=by simp [Region.wanted,hg]
 rw [ar hw]
 unfold Oper.wp execOp
 simp only [hop,resolve,invoke,builtin,Sem.run_bind,Sem.run_pure,Result.andThen_ok,List.map_toArray,List.map_cons,List.map_nil,hd,hx,hr]
 exact hK
structure ki (w0:World) (ob:Nat) (tv:Value) (root lo hi:Int) (w:World) (st:Option (List aC)):Prop where
 below:ah w0 w
 lt:w0.heap.size+2<ob
 size:ob+2<w.heap.size
 box:w.heap[w0.heap.size]?=some (.cells #[tv, .int .i64 root] 32)
 low:w.heap[w0.heap.size+1]?=some (.cells #[.int .i64 lo] 3)
 high:w.heap[w0.heap.size+2]?=some (.cells #[.int .i64 hi] 3)
 err:w.heap[ob+1]?=some (.cells #[.int .i64 (if st.isSome then 0 else 1)] 36)
 walk:w.heap[ob+2]?=some (.cells #[.func (.func 87) #[] #[.pointer (some ⟨w0.heap.size,0,none⟩), .pointer (some ⟨w0.heap.size+1,0,none⟩), .pointer (some ⟨w0.heap.size+2,0,none⟩), .pointer (some ⟨ob+1,0,none⟩), .pointer (some ⟨ob,0,none⟩), .pointer (some ⟨ob+2,0,none⟩)]] 140)
 out:∃v,w.heap[ob]?=some (.cells #[v] 63)/\(∀b,v.ownBlock=some b->ob+2<b/\b<w.heap.size)/\∀es,st=some es->au (ob+3) w v es
def kL (ob:Nat) (w:World) (b:Nat):Prop:=∃v,w.heap[ob]?=some (.cells #[v] 63)/\v.ownBlock=some b
structure dY (ob:Nat) (w w':World):Prop where
 turn:aa0 (fun b=>b=ob\/b=ob+1\/kL ob w b) w w'
 row:∀b,kL ob w' b->kL ob w b\/w.heap.size<=b
theorem dY.refl (ob:Nat) (w:World):dY ob w w:=⟨aa0.refl _ _,fun _ h=> .inl h⟩
theorem dY.trans {a b c:World} (h:dY ob a b) (k:dY ob b c):dY ob a c:=by
 refine⟨h.turn.trans' k.turn fun i hi hx=>?_,fun i hi=>?_⟩
 ·rcases hx with hx|hx|hx
  ·exact .inl hx
  ·exact .inr (.inl hx)
  ·rcases h.row i hx with h1|h1
   ·exact .inr (.inr h1)
   ·omega
 ·have:=h.turn.size
  rcases k.row i hi with h1|h1
  ·rcases h.row i h1 with h2|h2
   ·exact .inl h2
   ·exact .inr h2
  ·exact .inr af
theorem dY.of (h:Below B w w') (hB:w.heap.size<=B) (oP:ob<w.heap.size):dY ob w w':=
 ⟨aa0.of h hB,fun b ⟨v,h1,h2⟩=> .inl ⟨v,(h.block ob af).symm.trans h1,h2⟩⟩
theorem ki.later {root lo hi:Int} (h:ki w0 ob tv root lo hi w st) {C:Nat} (hb:Below C w w') (hC:w.heap.size<=C):ki w0 ob tv root lo hi w' st:=by
 have hs:=h.size
 have hl:=h.lt
 have hz:=hb.size
 obtain⟨v,o1,o2,o3⟩:=h.out
 have g:∀b,b<w.heap.size->w'.heap[b]?=w.heap[b]?:=fun b hlt=>hb.block b af
 exact⟨Below.trans' h.below (hb.mono hC) h.below.size,hl,af,(g _ af).trans h.box,(g _ af).trans h.low,(g _ af).trans h.high,(g _ af).trans h.err,(g _ af).trans h.walk,v,(g _ af).trans o1,fun b hb=>⟨(o2 b hb).1,mQ (o2 b hb).2 hz⟩,fun es he=>(o3 es he).below hb hC⟩
theorem ki.row {root lo hi:Int} (h:ki w0 ob tv root lo hi w st) (hb:kL ob w b):ob+2<b/\b<w.heap.size:=by
 obtain⟨v,o1,o2,_⟩:=h.out
 obtain⟨u,h1,h2⟩:=hb
 rw [o1]at h1
 obtain rfl:v=u:=by simpa using h1
 exact o2 b h2
theorem dY.stay (h:dY ob w w') (hb:b<w.heap.size) (h1:b≠ob) (h2:b≠ob+1) (h3:¬kL ob w b):w'.heap[b]?=w.heap[b]?:=
 h.turn.block b hb (fun hx=>by rcases hx with hx|hx|hx;exact h1 hx;exact h2 hx;exact h3 hx)
end
section
variable {n a b:Int} {l:List Int} {f h:Nat} {t:Tr}
theorem Lh (hv:mC t (f+1) n a b=some (l,h)):n∈l:=by
 obtain⟨x,hx⟩:=yM hv
 obtain⟨_,⟨_,_,rfl,_⟩|⟨_,_,l',h',_,rfl,_⟩⟩:=ll hv hx <;> simp
theorem O7 {x:Nd} (hv:mC t (f+1) n a b=some (l,h)) (hx:t.dh n=some x):x.buf.length+x.aF.length<=14:=by
 have:=Bj hv n (Lh hv)
 have hof:t.of n=x.aF++x.buf:=by unfold Tr.of;rw [hx]
 rw [hof,dO]at this;omega
theorem BI {w:World} {b:Nat} {u v:Value} {T:TypeId} {fr:Nat×Nat} (h:w.heap[b]?=some (.cells #[u] T fr)):(w.setCell ⟨b,0,none⟩ v).heap[b]?=some (.cells #[v] T fr):=by
 have:=heap_setCell_same (off:=0) (v:=v) h
 simpa using this
theorem ki.stored {w0:World} {ob:Nat} {tv:Value} {root lo hi:Int} {wr w':World} {st st':Option (List aC)} (h:ki w0 ob tv root lo hi wr st) {v v':Value} {E:Int}
  (hv:wr.heap[ob]?=some (.cells #[v] 63)) (hT:aa0 (fun b=>v.ownBlock=some b) wr w') (hv':∀b,v'.ownBlock=some b->v.ownBlock=some b\/wr.heap.size<=b) (hE:E=if st'.isSome then 0 else 1) (hlt':∀b,v'.ownBlock=some b->b<w'.heap.size)
  (hO:∀es,st'=some es->au (ob+3) w' v' es) :
  ki w0 ob tv root lo hi ((w'.setCell ⟨ob,0,none⟩ v').setCell ⟨ob+1,0,none⟩ (.int .i64 E)) st'/\dY ob wr ((w'.setCell ⟨ob,0,none⟩ v').setCell ⟨ob+1,0,none⟩ (.int .i64 E)) /\
   ∀b,kL ob ((w'.setCell ⟨ob,0,none⟩ v').setCell ⟨ob+1,0,none⟩ (.int .i64 E)) b->v.ownBlock=some b\/wr.heap.size<=b:=by
 have hl:=h.lt
 have hz:=h.size
 have hb:=h.below.size
 have hT1:=hT.size
 obtain⟨u,o1,o2,o3⟩:=h.out
 obtain rfl:u=v:=by rw [hv]at o1;simpa using o1.symm
 have g:∀b,b<wr.heap.size->b<=ob+2->w'.heap[b]?=wr.heap[b]?:=fun b hb1 hb2=>hT.block b hb1 (fun hx=>by have:=(o2 b hx).1;omega)
 have g2:∀b,b≠ob->b≠ob+1->((w'.setCell ⟨ob,0,none⟩ v').setCell ⟨ob+1,0,none⟩ (.int .i64 E)).heap[b]?=w'.heap[b]?:=fun b h1 h2=>by
  rw [qd _ _ _ _ (by show b≠ob+1;exact h2),qd _ _ _ _ (by show b≠ob;exact h1)]
 have hout:((w'.setCell ⟨ob,0,none⟩ v').setCell ⟨ob+1,0,none⟩ (.int .i64 E)).heap[ob]?=some (.cells #[v'] 63):=by
  rw [qd _ _ _ _ (by show ob≠ob+1;omega)]
  exact BI ((g ob af af).trans hv)
 have hrow:∀b,kL ob ((w'.setCell ⟨ob,0,none⟩ v').setCell ⟨ob+1,0,none⟩ (.int .i64 E)) b->u.ownBlock=some b\/wr.heap.size<=b:=fun b ⟨x,hx1,hx2⟩=>by
  rw [hout]at hx1
  obtain rfl:v'=x:=by simpa using hx1
  exact hv' b hx2
 refine⟨⟨?_,hl,by simp;omega,?_,?_,?_,?_,?_,v',hout,fun b hb'=>⟨?_,by simp;exact hlt' b hb'⟩,fun es he=>?_⟩,⟨⟨?_,?_,?_,by simp;exact hT1,fun b hb1 hx=>?_⟩,fun b hb'=>?_⟩,hrow⟩
 ·have h1:ah w0 w':=hT.below h.below hb (fun i hi=>by have:=(o2 i hi).1;omega)
  exact(h1.setCell (by show w0.heap.size<=ob;omega) _).setCell (by show w0.heap.size<=ob+1;omega) _
 ·rw [g2 _ af af,g _ af af];exact h.box
 ·rw [g2 _ af af,g _ af af];exact h.low
 ·rw [g2 _ af af,g _ af af];exact h.high
 ·rw [hE]
  refine BI (u:= .int .i64 (if st.isSome then 0 else 1)) ?_
  rw [qd _ _ _ _ (by show ob+1≠ob;omega),g _ af af];exact h.err
 ·rw [g2 _ af af,g _ af af];exact h.walk
 ·rcases hv' b hb' with h1|h1
  ·exact(o2 b h1).1
  ·omega
 ·exact(hO es he).block fun b hb'=>g2 b (by rcases hv' b hb' with h1|h1;have:=(o2 b h1).1;omega;omega) (by rcases hv' b hb' with h1|h1;have:=(o2 b h1).1;omega;omega)
 ·exact hT.os
 ·exact hT.tape
 ·exact hT.output
 ·rw [g2 b (fun e=>hx (.inl e)) (fun e=>hx (.inr (.inl e)))]
  exact hT.block b hb1 (fun e=>hx (.inr (.inr ⟨u,hv,e⟩)))
 ·rcases hrow b hb' with h1|h1
  ·exact .inl ⟨u,hv,h1⟩
  ·exact .inr h1
end
section
variable {lo hi:Int} {go:Int->List aC} {m ob nb:Nat} {x:Nd} {st:Option (List aC)} {bo:Option Obj} {tv:Value} {w0 w wr w':World}
theorem xe {go:Int->Int->Int->Option (List Int×Nat)} {x:Nd} {a b:Int}:∀{ks:List Int} {i:Nat} {l:List Int} {h:Nat},ct go x a b ks i=some (l,h)->∀(m:Nat) (K:Int),ks[m]?=some K->∃a' b' l' h',go K a' b'=some (l',h')
 |[],_,_,_,_=>fun _ _ hm=>by simp at hm
 |k::ks,i,l,h,hv=>by
  unfold ct at hv
  split at hv
  ·split at hv
   ·rename_i l1 h1 l2 h2 e1 e2
    intro m K hm
    cases m with
    |zero=>simp only [List.getElem?_cons_zero,iw]at hm;subst hm;exact⟨_,_,_,_,e1⟩
    |succ m=>exact xe e2 m K (by simpa using hm)
   ·cases hv
  ·cases hv
theorem Jr {t:Tr} {f:Nat} {n a b:Int} {l:List Int} {h:Nat} (hv:mC t (f+1) n a b=some (l,h)) (hx:t.dh n=some x) :
  x.kids.length<=4/\(x.kids≠[]->x.keys.length+1=x.kids.length)/\∀(m:Nat) (K:Int),x.kids[m]?=some K->∃a' b' l' h',mC t f K a' b'=some (l',h'):=by
 obtain⟨_,⟨_,hl,_,_⟩|⟨_,hi,l',h',hk,_,_⟩⟩:=ll hv hx
 ·obtain⟨_,h2,_⟩:=hl
  rw [h2]
  exact⟨bj,fun h=>absurd rfl h,fun _ _ hm=>by simp at hm⟩
 ·obtain⟨_,_,h3,h4,_⟩:=hi
  exact⟨h3,fun _=>h4,fun m K hm=>xe hk m K hm⟩
theorem pQ {go:Int->List aC} {x:Nd} {lo hi:Int}:∀(ps bs:List Int) (i:Nat),gH go x lo hi (ps++bs) i=gH go x lo hi ps i++gH go x lo hi bs (i+ps.length)
 |[],bs,i=>by simp [gH]
 |a::ps,bs,i=>by
  rw [List.cons_append,gH,gH,pQ ps bs (i+1),jv,gp,show i+(ps.length+1)=i+1+ps.length from by omega]
theorem Gy {k:Nat} {K:Int} (h:x.kids[k]?=some K) :
  gH go x lo hi (x.kids.take (k+1)) 0=gH go x lo hi (x.kids.take k) 0++(if ie x lo hi k then go K else []):=by
 obtain⟨hk,rfl⟩:=gJ.1 h
 rw [kK hk,pQ,iW,eP,Nat.min_eq_left af]
 simp [gH]
theorem GA (k:Nat):∃R,gH go x lo hi x.kids 0=gH go x lo hi (x.kids.take k) 0++R:=
 ⟨_,by rw [<-pQ,wL]⟩
theorem pT (h1:m≠0->∃F,x.keys[m-1]?=some F/\F<hi) (h2:m≠x.keys.length->∃T,x.keys[m]?=some T/\lo<T):ie x lo hi m=true:=by
 simp only [ie,Bool.and_eq_true,Bool.or_eq_true,yi,List.getD_eq_getElem?_getD]
 refine⟨?_,?_⟩
 ·by_cases h:m=0
  ·exact .inl h
  ·obtain⟨F,e,h⟩:=h1 h;rw [e];exact .inr h
 ·by_cases h:m=x.keys.length
  ·exact .inl h
  ·obtain⟨T,e,h⟩:=h2 h;rw [e];exact .inr h
theorem G9 {F:Int} (h0:m≠0) (h1:x.keys[m-1]?=some F) (h2:¬F<hi):ie x lo hi m=false:=by
 simp only [ie,List.getD_eq_getElem?_getD,h1]
 simp [h0,h2]
theorem zR {T:Int} (h1:x.keys[m]?=some T) (h2:¬lo<T):ie x lo hi m=false:=by
 have h3:=(gJ.1 h1).1
 have h4:m≠x.keys.length:=af
 simp only [ie,List.getD_eq_getElem?_getD,h1]
 simp [h4,h2]
structure Mid (w0:World) (ob:Nat) (tv:Value) (root lo hi:Int) (w:World) (nb:Nat) (bo:Option Obj) (wr:World) (st:Option (List aC)):Prop where
 at_:ki w0 ob tv root lo hi wr st
 turn:dY ob w wr
 node:wr.heap[nb]?=bo
 lt:ob+2<nb/\nb<wr.heap.size
 row:∀b,kL ob wr b->b≠nb
theorem Mid.next {root:Int} {st':Option (List aC)} (h:Mid w0 ob tv root lo hi w nb bo wr st)
  (ha:ki w0 ob tv root lo hi w' st') (ht:dY ob wr w'):Mid w0 ob tv root lo hi w nb bo w' st':=by
 obtain⟨h1,h2,h3,⟨h4,h5⟩,h6⟩:=h
 refine⟨ha,h2.trans ht,(ht.stay h5 af af (fun hx=>h6 _ hx rfl)).trans h3,⟨h4,by have:=ht.turn.size;omega⟩,fun b hb=>?_⟩
 rcases ht.row b hb with h|h
 ·exact h6 b h
 ·omega
theorem Mid.later {root:Int} (h:Mid w0 ob tv root lo hi w nb bo wr st) {C:Nat}
  (hb:Below C wr w') (hC:wr.heap.size<=C):Mid w0 ob tv root lo hi w nb bo w' st:=
 h.next (h.at_.later hb hC) (dY.of hb hC (by have:=h.at_.size;omega))
theorem Mid.list {root:Int} (_h:Mid w0 ob tv root lo hi w nb bo wr st)
  (ht:dY ob wr w') {B:Nat} {v:Value} {LL:List aC} (hB:ob+2<B) (ho:au B wr v LL) (hr:∀b,kL ob wr b->v.ownBlock≠some b) :
  au B w' v LL/\∀b,kL ob w' b->v.ownBlock≠some b:=by
 refine⟨ho.block fun g hg=>ht.stay (ho.lt g hg).2 (by have:=(ho.lt g hg).1;omega) (by have:=(ho.lt g hg).1;omega) (fun hx=>hr g hx hg),fun b hb e=>?_⟩
 rcases ht.row b hb with h1|h1
 ·exact hr b h1 e
 ·have:=(ho.lt b e).2;omega
end
section
set_option maxRecDepth 100000
set_option maxHeartbeats 6000000
theorem CT {t:Tr} {tv:Value} {w0:World} (hn:bz w0 tv t.nodes) {ob:Nat} {lo hi:Int} {f:Nat}
  (IH:∀(n a b:Int) (l:List Int) (h:Nat) (P:List aC) (w:World),mC t f n a b=some (l,h)->dX (P++gG t lo hi f n)->ki w0 ob tv t.root lo hi w (fe P) ->
   Calls Tryd.prog 87 #[.int .i64 n, .pointer (some ⟨w0.heap.size,0,none⟩), .pointer (some ⟨w0.heap.size+1,0,none⟩), .pointer (some ⟨w0.heap.size+2,0,none⟩), .pointer (some ⟨ob+1,0,none⟩), .pointer (some ⟨ob,0,none⟩), .pointer (some ⟨ob+2,0,none⟩)] w fun e w'=>e = .returned (.tuple #[])/\dY ob w w'/\ki w0 ob tv t.root lo hi w' (fe (P++gG t lo hi f n)))
  {n a b:Int} {l:List Int} {h:Nat} {P:List aC} {w:World} (hv:mC t (f+1) n a b=some (l,h)) (hP:dX (P++gG t lo hi (f+1) n)) (hA:ki w0 ob tv t.root lo hi w (fe P)) :
  Calls Tryd.prog 87 #[.int .i64 n, .pointer (some ⟨w0.heap.size,0,none⟩), .pointer (some ⟨w0.heap.size+1,0,none⟩), .pointer (some ⟨w0.heap.size+2,0,none⟩), .pointer (some ⟨ob+1,0,none⟩), .pointer (some ⟨ob,0,none⟩), .pointer (some ⟨ob+2,0,none⟩)] w fun e w'=>e = .returned (.tuple #[])/\dY ob w w'/\ki w0 ob tv t.root lo hi w' (fe (P++gG t lo hi (f+1) n)):=by
 obtain⟨x,hx⟩:=yM hv
 obtain⟨hn0,GU,xE⟩:=uY hx
 obtain⟨j,hj⟩:∃j:Nat,n=j:=⟨n.toNat,af⟩
 subst hj
 rw [Int.toNat_natCast]at GU xE
 obtain⟨nb,gL,c,ev,kv,dv,bv,rfl,hnb,hE,hK,hD,hB,c0,c1,c2,c3,c4⟩:=pP hn hA.below xE
 obtain⟨ae,ne,rfl⟩:=hE.isSlice
 obtain⟨ak,nk,rfl⟩:=hK.isSlice
 obtain⟨ad,tU,rfl⟩:=hD.isSlice
 obtain⟨ab,o8,rfl⟩:=hB.isSlice
 have HA:=hdd hA
 obtain⟨q0,q1⟩:w.cell? ⟨w0.heap.size,0,none⟩=some (.slice (some ⟨nb,gL,none⟩) t.nodes.length c)/\w.cell? ⟨w0.heap.size,1,none⟩=some (.int .i64 t.root):=by simp [World.cell?,hA.box]
 have hsz:=hA.size
 have hlt:=hA.lt
 have hbz:=hA.below.size
 have n0:nb<w.heap.size:=af
 have iu:=fun w'=>dR (ab:=nb) (aV:=gL) (n:=t.nodes.length) (cap:=c) (show (j:Int)=((j:Nat):Int) by rfl) GU w'
 obtain⟨W1,hW1⟩:=bP (w.alloc (.cells #[.bool x.leaf, .slice ae x.aF.length ne, .slice ak x.keys.length nk, .slice ad x.kids.length tU, .slice ab x.buf.length o8] 119))
 have hb1:ah w W1:=by rw [hW1];exact ag
 have k1:W1.heap[w.heap.size]?=some (.cells #[.bool x.leaf, .slice ae x.aF.length ne, .slice ak x.keys.length nk, .slice ad x.kids.length tU, .slice ab x.buf.length o8] 119):=by rw [hW1];exact aj _ _ rfl
 have rN:=hdd (hA.later hb1 aH)
 have hz1:W1.heap.size=w.heap.size+1:=by rw [hW1];simp
 have HE:=hdd hE
 have HB:=hdd hB
 have Cb:=hdd hK
 have HDD:=hdd hD
 have HV:=hdd hv
 have XT:=hdd hP
 have HXX:=hdd hx
 have UC:=hdd IH
 have hsm:=O7 hv hx
 clear hA hE hB hK hD hv hP hx IH
 go_enter Tryd.func87,Tryd.ntmps87
 go_upto_region 1 with (fail)
 rw [<-hW1]
 have HS:=hdd fun w' (hb:ah W1 w')=>(by
  have b0:w'.heap[w.heap.size]?=_:=(hb.block _ af).trans k1
  simp [World.cell?,b0]:w'.cell? ⟨w.heap.size,1,none⟩=some (.slice ae x.aF.length ne)/\w'.cell? ⟨w.heap.size,4,none⟩=some (.slice ab x.buf.length o8))
 have Oe:=hdd fun w' (hb:ah W1 w')=>(rN.out.later hb aH).below
 have yr:=hdd fun w' (hb:ah W1 w')=>acz (HB.out.below (Oe.out w' hb) aH)
 have RL:=hdd fun w' (hb:ah W1 w')=>HE.out.below (Oe.out w' hb) aH
 have b0:ah W1 W1.drew:=(aI _ _).drew
 have hs0:=HS.out _ b0
 clear hW1 q0 q1 c0 c1 c2 c3 c4 iu
 go_cut [23,24,25] (fun lv ln z wx=>au W1.heap.size wx lv (x.buf++x.aF)/\ln = .int .i64 ((x.buf++x.aF).length:Nat)/\z = .int .i64 0/\ah W1 wx)
 case first=>
  go_region_held3 (fun w'=>w'.cell? ⟨w.heap.size,1,none⟩=some (.slice ae x.aF.length ne)/\w'.cell? ⟨w.heap.size,4,none⟩=some (.slice ab x.buf.length o8))
   (first|with_reducible exact hs0|(with_reducible refine HS.out _ ?_;first|(with_reducible assumption)|exact ag))
   (first
    |(go_at_call 88;(with_reducible refine(yr.out _ b0).mono ?_);rintro e w5 ⟨v5,rfl,zF,cu⟩;have Zc:ah W1 w5:=Below.trans' b0 cu aH;obtain⟨v6,w6,hrun,CE,WD,U7⟩:=xY (B:=W1.heap.size) (w:=w5) (es:=x.buf) (xs:=x.aF) ⟨zF⟩ (RL.out w5 Zc) af Zc.size 63;have bw6:ah W1 w6:=Below.grown Zc WD Zc.size (fun k hk=>((au.mk zF).lt k hk).1);obtain⟨s5,c5,rfl⟩:=(au.mk zF).isSlice;obtain⟨s6,c6,rfl⟩:=CE.isSlice)
    |(refine xU rfl (.tmp 20) (.tmp 22) 63 63 rfl _ _ rfl rfl hrun ?_))
  all_goals
   go_wp2_with fail
   go_meet
   exact⟨CE,bj,rfl,bw6⟩
 case rest=>
  obtain⟨hol,rfl,rfl,hbl⟩:=hcut
  obtain⟨ls,lc,rfl⟩:=hol.isSlice
  obtain⟨LL,Vd⟩:=bt (x.buf++x.aF)
  rw [Vd]at hol
  have agV:LL.length<=14:=by rw [<-Vd,dO];exact hsm
  have UB:=hdd Vd
  obtain⟨A,hA⟩:=bt (LL.filter (aR lo hi))
  have UJ:=hdd hA
  have OV:=hdd (show gG t lo hi (f+1) (j:Int)=A++gH (fun k=>gG t lo hi f k) x lo hi x.kids 0 by
   rw [<-hA,<-Vd];show (match t.dh (j:Int) with|none=>_|some x=>_)=_;rw [HXX.out])
  clear hA hs0 b0 HS yr RL Oe hsm
  have hA0:=hdd (rN.out.later hbl aH)
  have hT0:dY ob w wc:=(dY.of hb1 aH af).trans (dY.of hbl aH af)
  have hx0:wc.heap[w.heap.size]?=_:=(hbl.block _ af).trans k1
  have V5:∀b,kL ob wc b->b<w.heap.size:=fun b ⟨u,h1,h2⟩=>(HA.out.row ⟨u,(hb1.block ob af).symm.trans ((hbl.block ob af).symm.trans h1),h2⟩).2
  have hwz:=hbl.size
  have Lb:Mid w0 ob (.slice (some ⟨nb,gL,none⟩) t.nodes.length c) t.root lo hi w w.heap.size (some (.cells #[.bool x.leaf, .slice ae x.aF.length ne, .slice ak x.keys.length nk, .slice ad x.kids.length tU, .slice ab x.buf.length o8] 119)) wc (fe P):=⟨hA0.out,hT0,hx0,⟨af,af⟩,fun b hb=>by have:=V5 b hb;omega⟩
  have U2:∀b,kL ob wc b->(Value.slice ls LL.length lc).ownBlock≠some b:=fun b hb h=>by have h1:=V5 b hb;have h2:=(hol.lt b h).1;omega
  rw [Vd]
  have HST:=hdd (aL Lb (aL hol U2))
  have SL:ob+2<W1.heap.size:=af
  clear hA0 hT0 hx0 U2 hol hbl Vd k1 V5 Lb
  go_wp2_with fail
  go_loopg [25] LL.length (fun g i wr=>∃k:Nat,k<=LL.length/\g=LL.length-k/\i = .int .i64 k/\Hid (Mid w0 ob (.slice (some ⟨nb,gL,none⟩) t.nodes.length c) t.root lo hi w w.heap.size (some (.cells #[.bool x.leaf, .slice ae x.aF.length ne, .slice ak x.keys.length nk, .slice ad x.kids.length tU, .slice ab x.buf.length o8] 119)) wr (fe (P++(LL.take k).filter (aR lo hi)))/\au W1.heap.size wr (.slice ls LL.length lc) LL/\∀b,kL ob wr b->(Value.slice ls LL.length lc).ownBlock≠some b))
  case atStart=>exact⟨0,jd _,rfl,rfl,by have:=HST.out;exact hdd (by simpa using this)⟩
  case round=>
   clear HST
   obtain⟨k,hk,rfl,rfl,HR⟩:=hrel
   obtain⟨hM,ho,hr⟩:=HR.out
   by_cases jJ:k<LL.length
   ·obtain⟨_,_,hv,-,-,-,-,h5⟩:=ho.at af
    injection hv with hv1 _ hv3
    subst hv3
    obtain⟨eb,eB,lA,si,nE⟩:=h5 af
    subst lA
    subst hv1
    obtain⟨y0,y1,y2,y3,y4,y5,y6⟩:=bU (aI _ _) si nE jJ
    obtain⟨y,hy⟩:=bt (LL[k])
    rw [hy]at y0 y1 y2 y3 y4 y5 y6
    have HY:=hdd hy
    have hwz:w.heap.size<wr.heap.size:=hM.lt.2
    have hoz:ob+2<wr.heap.size:=hM.at_.size
    obtain⟨W8,mM⟩:=bP (wr.alloc (.cells #[.int .i64 y.key, .int .i64 y.is.c, .int .i64 y.is.s, .int .i64 y.is.mi, .int .i64 y.is.ma, .int .i64 y.is.t, .int .i64 y.is.l] 96))
    have kS:ah wr W8:=by rw [mM];exact ag
    have Ee:W8.heap.size=wr.heap.size+1:=by rw [mM];simp
    have k8:W8.heap[wr.heap.size]?=some (.cells #[.int .i64 y.key, .int .i64 y.is.c, .int .i64 y.is.s, .int .i64 y.is.mi, .int .i64 y.is.ma, .int .i64 y.is.t, .int .i64 y.is.l] 96):=by rw [mM];exact aj _ _ rfl
    have OB:=hM.later kS aH
    obtain⟨Q0,hr8⟩:=hM.list (dY.of kS aH af) SL ho hr
    have htk:(LL.take (k+1)).filter (aR lo hi)=(LL.take k).filter (aR lo hi)++(if aR lo hi y=true then [y]else []):=by
     rw [kK jJ,hy,rF]
     by_cases h:aR lo hi y=true
     ·rw [ar h,rG h];rfl
     ·rw [ai h,qB h];rfl
    have sS:=hdd htk
    have eU:=hdd (aL OB (aL Q0 hr8))
    have jS:=fun w'=>dw (ab:=eb) (aV:=eB) (n:=LL.length) (cap:=lc) (show (k:Int)=((k:Nat):Int) by rfl) jJ w'
    obtain⟨s0,s1,s2,s3,s4,s5,s6⟩:W8.cell? ⟨wr.heap.size,0,none⟩=some (.int .i64 y.key)/\W8.cell? ⟨wr.heap.size,1,none⟩=some (.int .i64 y.is.c)/\W8.cell? ⟨wr.heap.size,2,none⟩=some (.int .i64 y.is.s)/\W8.cell? ⟨wr.heap.size,3,none⟩=some (.int .i64 y.is.mi)/\W8.cell? ⟨wr.heap.size,4,none⟩=some (.int .i64 y.is.ma)/\W8.cell? ⟨wr.heap.size,5,none⟩=some (.int .i64 y.is.t)/\W8.cell? ⟨wr.heap.size,6,none⟩=some (.int .i64 y.is.l):=by simp [World.cell?,k8]
    have cl:W8.cell? ⟨w0.heap.size+1,0,none⟩=some (.int .i64 lo):=by simp [World.cell?,OB.at_.low]
    have ch:W8.cell? ⟨w0.heap.size+2,0,none⟩=some (.int .i64 hi):=by simp [World.cell?,OB.at_.high]
    have ce:W8.cell? ⟨ob+1,0,none⟩=some (.int .i64 (if (fe (P++(LL.take k).filter (aR lo hi))).isSome then 0 else 1)):=by simp [World.cell?,OB.at_.err]
    go_upto_region 4 with (fail)
    rw [<-mM]
    clear hM ho hr mM OB Q0 hr8 htk nE h5 hy y0 y1 y2 y3 y4 y5 y6 k8 jS HR
    by_cases i1:lo<=y.key
    ·by_cases i2:y.key<hi
     ·have hin:aR lo hi y=true:=by simp [aR,i1,i2]
      rw [ar hin]at sS
      have HG:=hdd (show dX (P++A) by have:=XT.out;rw [OV.out,<-jv]at this;exact this.left)
      have Zu:=hdd (show dX (P++(LL.take k).filter (aR lo hi)) by
       have:=HG.out
       rw [<-UJ.out,<-wL k LL,rF,<-jv]at this
       exact this.left)
      have HYA:=hdd (show y∈P++A by
       rw [<-UJ.out];simp only [kJ,mn];right;exact⟨by rw [<-HY.out];exact fP jJ,hin⟩)
      cases hbg:fe (P++(LL.take k).filter (aR lo hi)) with
      |none=>
       rw [hbg]at ce
       have HN:=hdd (show fe (P++(LL.take (k+1)).filter (aR lo hi))=fe (P++(LL.take k).filter (aR lo hi)) by
        rw [hbg,sS.out,<-jv];exact BX hbg)
       simp only [Option.isSome_none]at ce
       clear hbg hin
       go_wp2
       go_roundg (LL.length-(k+1))
       case measure=>omega
       case rel=>exact⟨k+1,af,rfl,by go_num,by have:=eU.out;rw [<-HN.out]at this;exact hdd this⟩
      |some es=>
       rw [hbg]at ce
       have OB:=eU.out.1
       obtain⟨v,o1,o2,o3⟩:=OB.at_.out
       have hov:=o3 es hbg
       obtain⟨g1,g2,g3,g4⟩:=pL Zu.out hbg
       obtain⟨vs,vc,rfl⟩:=hov.isSlice
       have afR:ob+2<W8.heap.size:=OB.at_.size
       have HM:=hdd (tF (B:=ob+3) hov af af g1 g2 (HG.out.1 y HYA.out).2 g3 (HG.out.2.1 y HYA.out))
       have FE:=hdd (show fe (P++(LL.take (k+1)).filter (aR lo hi))=jI es y by rw [sS.out,<-jv,BW,hbg];rfl)
       have HBE:=hdd fun w6 (OA:aa0 (fun b=>(Value.slice vs es.length vc).ownBlock=some b) W8 w6)=>(by
        have h1:w6.heap[ob]?=_:=(OA.block ob af (fun h=>by have:=(o2 _ h).1;omega)).trans o1
        have h2:w6.heap[ob+1]?=_:=(OA.block (ob+1) af (fun h=>by have:=(o2 _ h).1;omega)).trans OB.at_.err
        simp [World.frozen?,World.cell?,h1,h2]:w6.frozen? ⟨ob,0,none⟩=false/\w6.frozen? ⟨ob+1,0,none⟩=false/\w6.cell? ⟨ob,0,none⟩=some (.slice vs es.length vc)/\w6.cell? ⟨ob+1,0,none⟩=some (.int .i64 (if (fe (P++(LL.take k).filter (aR lo hi))).isSome then 0 else 1)))
       have FD:=hdd o1
       have co:W8.cell? ⟨ob,0,none⟩=some (.slice vs es.length vc):=by simp [World.cell?,o1]
       have AE:=hdd fun w6 st' v' (E:Int) (OA:aa0 (fun b=>(Value.slice vs es.length vc).ownBlock=some b) W8 w6) (hv':∀b,v'.ownBlock=some b->(Value.slice vs es.length vc).ownBlock=some b\/W8.heap.size<=b) (hE:E=if (st':Option (List aC)).isSome then 0 else 1) (hl:∀b,v'.ownBlock=some b->b<w6.heap.size) (hO:∀es,st'=some es->au (ob+3) w6 v' es) (hst:fe (P++(LL.take (k+1)).filter (aR lo hi))=st')=>(by
        obtain⟨q1,q2,-⟩:=ki.stored eU.out.1.at_ FD.out OA hv' hE hl hO
        rw [hst]
        exact⟨eU.out.1.next q1 q2,eU.out.1.list q2 SL eU.out.2.1 eU.out.2.2⟩ :
        Mid w0 ob (.slice (some ⟨nb,gL,none⟩) t.nodes.length c) t.root lo hi w w.heap.size (some (.cells #[.bool x.leaf, .slice ae x.aF.length ne, .slice ak x.keys.length nk, .slice ad x.kids.length tU, .slice ab x.buf.length o8] 119)) ((w6.setCell ⟨ob,0,none⟩ v').setCell ⟨ob+1,0,none⟩ (.int .i64 E)) (fe (P++(LL.take (k+1)).filter (aR lo hi)))/\au W1.heap.size ((w6.setCell ⟨ob,0,none⟩ v').setCell ⟨ob+1,0,none⟩ (.int .i64 E)) (.slice (some ⟨eb,eB,none⟩) LL.length lc) LL/\∀b,kL ob ((w6.setCell ⟨ob,0,none⟩ v').setCell ⟨ob+1,0,none⟩ (.int .i64 E)) b->(Value.slice (some ⟨eb,eB,none⟩) LL.length lc).ownBlock≠some b)
       clear OB o1 o2 o3 hov g1 g2 g3 g4 hbg hin
       simp only [Option.isSome_some,if_true]at ce
       cases hI:jI es y with
       |none=>
        rw [hI]at HM FE
        clear hI
        go_wp2_with ((go_at_call 89;(with_reducible refine HM.out.mono ?_);rintro e w6 ⟨OA,rfl,CE⟩;obtain⟨f0,f1,f2,f3⟩:=HBE.out _ OA;have U7:=fun b hb=>(CE.lt b hb).2))
        go_roundg (LL.length-(k+1))
        case measure=>omega
        case rel=>exact⟨k+1,af,rfl,by go_num,hdd (AE.out w6 none _ 1 OA (fun b hb=> .inl hb) rfl U7 (fun _ h=>by cases h) FE.out)⟩
       |some es'=>
        rw [hI]at HM FE
        clear hI
        go_wp2_with ((go_at_call 89;(with_reducible refine HM.out.mono ?_);rintro e w6 ⟨OA,v6,rfl,CE,V2⟩;obtain⟨f0,f1,f2,f3⟩:=HBE.out _ OA;have U7:=fun b hb=>(CE.lt b hb).2;obtain⟨s6,c6,rfl⟩:=CE.isSlice))
        go_roundg (LL.length-(k+1))
        case measure=>omega
        case rel=>exact⟨k+1,af,rfl,by go_num,hdd (AE.out w6 (some es') _ 0 OA V2 rfl U7 (fun _ h=>by cases h;exact CE) FE.out)⟩
     ·have HN:=hdd (show fe (P++(LL.take (k+1)).filter (aR lo hi))=fe (P++(LL.take k).filter (aR lo hi)) by
       rw [sS.out,ai (by simp [aR];omega),oL])
      have UU:hi<=y.key:=af
      clear i2
      go_wp2
      go_roundg (LL.length-(k+1))
      case measure=>omega
      case rel=>exact⟨k+1,af,rfl,by go_num,by have:=eU.out;rw [<-HN.out]at this;exact hdd this⟩
    ·have HN:=hdd (show fe (P++(LL.take (k+1)).filter (aR lo hi))=fe (P++(LL.take k).filter (aR lo hi)) by
      rw [sS.out,ai (by simp [aR];omega),oL])
     have i1':y.key<lo:=af
     clear i1
     go_wp2
     go_roundg (LL.length-(k+1))
     case measure=>omega
     case rel=>exact⟨k+1,af,rfl,by go_num,by have:=eU.out;rw [<-HN.out]at this;exact hdd this⟩
   ·obtain rfl:k=LL.length:=af
    rw [lI aH,UJ.out]at hM
    obtain⟨hk4,hkk,yC⟩:=Jr HV.out HXX.out
    have HM:=hdd hM
    have Db:=hdd yC
    have S3:x.kids.length<1000:=af
    have acu:=hdd hkk
    have hx3:wr.cell? ⟨w.heap.size,3,none⟩=some (.slice ad x.kids.length tU):=by simp [World.cell?,hM.node]
    have hPA:=hdd (show dX (P++(A++gH (fun k=>gG t lo hi f k) x lo hi x.kids 0)) by have:=XT.out;rw [OV.out]at this;exact this)
    clear hM ho hr HR hkk yC hk4 SL UJ UB
    go_wp2_with fail
    clear hx3
    go_loopg [53] x.kids.length (fun g i wr=>∃m:Nat,m<=x.kids.length/\g=x.kids.length-m/\i = .int .i64 m/\Hid (Mid w0 ob (.slice (some ⟨nb,gL,none⟩) t.nodes.length c) t.root lo hi w w.heap.size (some (.cells #[.bool x.leaf, .slice ae x.aF.length ne, .slice ak x.keys.length nk, .slice ad x.kids.length tU, .slice ab x.buf.length o8] 119)) wr (fe (P++(A++gH (fun k=>gG t lo hi f k) x lo hi (x.kids.take (m)) 0)))))
    case atStart=>exact⟨0,jd _,rfl,rfl,by have:=HM.out;exact hdd (by simpa [gH] using this)⟩
    case round=>
     clear HM
     obtain⟨m,hm,rfl,rfl,HR⟩:=hrel
     have hM:=HR.out
     have hA:=hM.at_
     by_cases jJ:m<x.kids.length
     ·obtain⟨K,hK⟩:∃K,x.kids[m]?=some K:=⟨x.kids[m],by simp [jJ]⟩
      obtain⟨kb,AO,VS,ke,hkb,hkc⟩:=gy.get (HDD.out.below hA.below aH) hK
      injection ke with VR _ VP
      subst VR VP
      have Wx:x.keys.length+1=x.kids.length:=acu.out (by rintro h;rw [h]at jJ;simp at jJ)
      have jS:=fun w'=>lQ (ab:=kb) (aV:=AO) (n:=x.kids.length) (cap:=tU) (show (m:Int)=((m:Nat):Int) by rfl) jJ w'
      obtain⟨x2,x3⟩:wr.cell? ⟨w.heap.size,2,none⟩=some (.slice ak x.keys.length nk)/\wr.cell? ⟨w.heap.size,3,none⟩=some (.slice (some ⟨kb,AO,none⟩) x.kids.length tU):=by simp [World.cell?,hM.node]
      have cl:wr.cell? ⟨w0.heap.size+1,0,none⟩=some (.int .i64 lo):=by simp [World.cell?,hA.low]
      have ch:wr.cell? ⟨w0.heap.size+2,0,none⟩=some (.int .i64 hi):=by simp [World.cell?,hA.high]
      have HKEY:=hdd fun(i:Nat) (y:Int) (hy:x.keys[i]?=some y)=>gy.get (Cb.out.below hA.below aH) hy
      have FI:=hdd (Gy (go:=fun k=>gG t lo hi f k) (lo:=lo) (hi:=hi) hK)
      have HKR:=hdd (GA (go:=fun k=>gG t lo hi f k) (x:=x) (lo:=lo) (hi:=hi) (m+1))
      have acp:=hdd (Db.out m K hK)
      obtain⟨kl,hkl⟩:=bt (x.keys.length)
      rw [hkl]at Wx x2 HKEY
      have X8:=hdd hkl
      have adx:m<=kl:=af
      have adw:kl<1000:=af
      clear hM hA hK Wx hkl
      go_upto_region 10 with (fail)
      go_cut [85] (fun c wx=>c = .bool (ie x lo hi m)/\ah wr wx)
      case first=>
       clear jS hkc hkb x3
       by_cases m0:m=0
       ·have ez:((m:Int) == 0)=true:=by simp;omega
        by_cases ml:m=kl
        ·have HG:=hdd (show ie x lo hi m=true from pT (fun h=>absurd m0 h) (fun h=>absurd (ml.trans X8.out.symm) h))
         have em:((m:Int) == (kl:Int))=true:=by simp;omega
         clear HKEY m0 ml
         go_quiet (fail)
         go_wp2
         go_meet
         exact⟨by rw [HG.out],ag⟩
        ·obtain⟨T,hT⟩:∃T,x.keys[m]?=some T:=⟨x.keys[m]'(by rw [X8.out];omega),bj⟩
         obtain⟨b2,L6,cap2,e2,hb2,hc2⟩:=HKEY.out m T hT
         injection e2 with f1 _ f3
         subst f1 f3
         have AX:m<kl:=af
         have MQ:=fun w'=>lQ (ab:=b2) (aV:=L6) (n:=kl) (cap:=nk) (show (m:Int)=((m:Nat):Int) by rfl) AX w'
         have em:((m:Int) == (kl:Int))=false:=by simp;omega
         by_cases i2:lo<T
         ·have HG:=hdd (show ie x lo hi m=true from pT (fun h=>absurd m0 h) (fun _=>⟨T,hT,i2⟩))
          have et:decide (lo<T)=true:=by simp [i2]
          clear hT HKEY i2 m0 ml
          go_quiet (fail)
          go_wp2
          go_meet
          exact⟨by rw [HG.out],ag⟩
         ·have HG:=hdd (show ie x lo hi m=false from zR hT i2)
          have et:decide (lo<T)=false:=by simp;omega
          clear hT HKEY i2 m0 ml
          go_quiet (fail)
          go_wp2
          go_meet
          exact⟨by rw [HG.out],ag⟩
       ·have ez:((m:Int) == 0)=false:=by simp;omega
        obtain⟨F,hF⟩:∃F,x.keys[m-1]?=some F:=⟨x.keys[m-1]'(by rw [X8.out];omega),bj⟩
        obtain⟨b1,VI,ahe,e1,mL,hc1⟩:=HKEY.out (m-1) F hF
        injection e1 with f1 _ f3
        subst f1 f3
        have hw1:IntKind.i64.wrap ((m:Int)-1)=(m:Int)-1:=IntWalk.i64_in _ af
        have Wy:=fun w'=>lQ (ab:=b1) (aV:=VI) (n:=kl) (cap:=nk) (show (m:Int)-1=((m-1:Nat):Int) by omega) af w'
        by_cases i1:F<hi
        ·have ef:decide (F<hi)=true:=by simp [i1]
         by_cases ml:m=kl
         ·have HG:=hdd (show ie x lo hi m=true from pT (fun _=>⟨F,hF,i1⟩) (fun h=>absurd (ml.trans X8.out.symm) h))
          have em:((m:Int) == (kl:Int))=true:=by simp;omega
          clear hF HKEY m0 ml i1
          go_quiet (fail)
          go_wp2
          go_meet
          exact⟨by rw [HG.out],ag⟩
         ·obtain⟨T,hT⟩:∃T,x.keys[m]?=some T:=⟨x.keys[m]'(by rw [X8.out];omega),bj⟩
          obtain⟨b2,L6,cap2,e2,hb2,hc2⟩:=HKEY.out m T hT
          injection e2 with f1 _ f3
          injection f1 with f1
          injection f1 with f1 f2
          subst f1 f2 f3
          have AX:m<kl:=af
          have MQ:=fun w'=>lQ (ab:=b1) (aV:=VI) (n:=kl) (cap:=nk) (show (m:Int)=((m:Nat):Int) by rfl) AX w'
          have em:((m:Int) == (kl:Int))=false:=by simp;omega
          by_cases i2:lo<T
          ·have HG:=hdd (show ie x lo hi m=true from pT (fun _=>⟨F,hF,i1⟩) (fun _=>⟨T,hT,i2⟩))
           have et:decide (lo<T)=true:=by simp [i2]
           clear hT hF HKEY i1 i2 m0 ml
           go_quiet (fail)
           go_wp2
           go_meet
           exact⟨by rw [HG.out],ag⟩
          ·have HG:=hdd (show ie x lo hi m=false from zR hT i2)
           have et:decide (lo<T)=false:=by simp;omega
           clear hT hF HKEY i1 i2 m0 ml
           go_quiet (fail)
           go_wp2
           go_meet
           exact⟨by rw [HG.out],ag⟩
        ·have HG:=hdd (show ie x lo hi m=false from G9 m0 hF i1)
         have ef:decide (F<hi)=false:=by simp;omega
         clear hF HKEY m0 i1
         go_quiet (fail)
         go_wp2
         go_meet
         exact⟨by rw [HG.out],ag⟩
      case rest=>
       obtain⟨rfl,hbc⟩:=hcut
       have hM:=HR.out.later hbc aH
       have Ob:=hdd hM
       have cw:wc.cell? ⟨ob+2,0,none⟩=some (.func (.func 87) #[] #[.pointer (some ⟨w0.heap.size,0,none⟩), .pointer (some ⟨w0.heap.size+1,0,none⟩), .pointer (some ⟨w0.heap.size+2,0,none⟩), .pointer (some ⟨ob+1,0,none⟩), .pointer (some ⟨ob,0,none⟩), .pointer (some ⟨ob+2,0,none⟩)]):=by simp [World.cell?,hM.at_.walk]
       clear hM x2 x3 cl ch jS hkc hkb hbc
       cases hg:ie x lo hi m with
       |false=>
        have Qz:=hdd (show gH (fun k=>gG t lo hi f k) x lo hi (x.kids.take (m+1)) 0=gH (fun k=>gG t lo hi f k) x lo hi (x.kids.take m) 0 by rw [FI.out,ai (by simp [hg]),oL])
        clear hg
        go_wp2
        go_roundg (x.kids.length-(m+1))
        case measure=>omega
        case rel=>exact⟨m+1,af,rfl,by go_num,by have:=Ob.out;rw [<-Qz.out]at this;exact hdd this⟩
       |true=>
        have Qz:=hdd (show gH (fun k=>gG t lo hi f k) x lo hi (x.kids.take (m+1)) 0=gH (fun k=>gG t lo hi f k) x lo hi (x.kids.take m) 0++gG t lo hi f K by rw [FI.out,ar hg])
        have ko:=hdd (show dX ((P++(A++gH (fun k=>gG t lo hi f k) x lo hi (x.kids.take m) 0))++gG t lo hi f K) by
         obtain⟨R,hR⟩:=HKR.out
         have:=hPA.out
         rw [hR,Qz.out]at this
         simp only [<-jv]at this ⊢
         exact this.left)
        obtain⟨a',b',l',h',hvk⟩:=acp.out
        have lg:=hdd (UC.out K a' b' l' h' _ wc hvk ko.out Ob.out.at_)
        have AE:=hdd fun w5 (qq:dY ob wc w5) (Tv:ki w0 ob (.slice (some ⟨nb,gL,none⟩) t.nodes.length c) t.root lo hi w5 (fe ((P++(A++gH (fun k=>gG t lo hi f k) x lo hi (x.kids.take m) 0))++gG t lo hi f K)))=>(by
         have:=Ob.out.next Tv qq
         rw [jv,jv,<-Qz.out]at this
         exact this:Mid w0 ob (.slice (some ⟨nb,gL,none⟩) t.nodes.length c) t.root lo hi w w.heap.size (some (.cells #[.bool x.leaf, .slice ae x.aF.length ne, .slice ak x.keys.length nk, .slice (some ⟨kb,AO,none⟩) x.kids.length tU, .slice ab x.buf.length o8] 119)) w5 (fe (P++(A++gH (fun k=>gG t lo hi f k) x lo hi (x.kids.take (m+1)) 0))))
        clear hg hvk
        go_wp2_with ((go_at_call 87;(with_reducible refine lg.out.mono ?_);rintro e w5 ⟨rfl,qq,Tv⟩))
        go_roundg (x.kids.length-(m+1))
        case measure=>omega
        case rel=>exact⟨m+1,af,rfl,by go_num,hdd (AE.out _ qq Tv)⟩
     ·obtain rfl:m=x.kids.length:=af
      rw [lI aH,<-OV.out]at hM
      have HM:=hdd hM
      clear hM hA HR
      go_wp2
      go_end0
      exact⟨rfl,HM.out.turn,HM.out.at_⟩
end
section
set_option maxRecDepth 100000
set_option maxHeartbeats 1000000
variable {lo hi:Int} {t:Tr}
theorem xO {t:Tr} {tv:Value} {w0:World} (hn:bz w0 tv t.nodes) {ob:Nat} {lo hi:Int}:∀(f:Nat) (n a b:Int) (l:List Int) (h:Nat) (P:List aC) (w:World),mC t f n a b=some (l,h)->dX (P++gG t lo hi f n)->ki w0 ob tv t.root lo hi w (fe P) ->
   Calls Tryd.prog 87 #[.int .i64 n, .pointer (some ⟨w0.heap.size,0,none⟩), .pointer (some ⟨w0.heap.size+1,0,none⟩), .pointer (some ⟨w0.heap.size+2,0,none⟩), .pointer (some ⟨ob+1,0,none⟩), .pointer (some ⟨ob,0,none⟩), .pointer (some ⟨ob+2,0,none⟩)] w fun e w'=>e = .returned (.tuple #[])/\dY ob w w'/\ki w0 ob tv t.root lo hi w' (fe (P++gG t lo hi f n))
 |0,_,_,_,_,_,_,_,hv,_,_=>by cases hv
 |f+1,n,a,b,l,h,P,w,hv,hP,hA=>CT hn (fun n a b l h P w hv hP hA=>xO hn f n a b l h P w hv hP hA) hv hP hA
theorem Jp (h1:t.nodes.length<=2000) (hv:lJ t):dX (gG t lo hi 12 t.root):=by
 have hc:=cz hv
 have hr:=lT hv
 have hl:=Bk hv
 obtain⟨l,h,e,hn,hl2⟩:=hv
 have hp:=(pE (lo:=lo) (hi:=hi) _ _ _ _ _ _ e).1
 have hq:=(lq e hn hl2).filter (aR lo hi)
 have WZ:=hp.trans hq
 refine⟨fun e he=>hc e ((mn.1 (WZ.mem_iff.1 he)).1),fun e he=>hr e ((mn.1 (WZ.mem_iff.1 he)).1),?_⟩
 have h2:=WZ.length_eq
 have h3:=sH (aR lo hi) t.all
 omega
theorem Bo (w:World) (o1 o2 o3:Obj):(((w.alloc o1).alloc o2).alloc o3).heap[w.heap.size]?=some o1/\(((w.alloc o1).alloc o2).alloc o3).heap[w.heap.size+1]?=some o2/\(((w.alloc o1).alloc o2).alloc o3).heap[w.heap.size+2]?=some o3:=by
 have a1:∀(w:World) (o:Obj),(w.alloc o).heap[w.heap.size]?=some o:=fun w o=>aj _ _ rfl
 have a2:∀(w:World) (o:Obj) (b:Nat),b<w.heap.size->(w.alloc o).heap[b]?=w.heap[b]?:=fun w o b h=>((aI w.heap.size w).alloc aH o).block b h
 have sz:∀(w:World) (o:Obj),(w.alloc o).heap.size=w.heap.size+1:=fun w o=>bj
 refine⟨?_,?_,?_⟩
 ·rw [a2 _ _ _ (by rw [sz,sz];omega),a2 _ _ _ (by rw [sz];omega)];exact a1 _ _
 ·rw [a2 _ _ _ (by rw [sz,sz];omega)]
  have:=a1 (w.alloc o1) o2
  rw [sz]at this;exact this
 ·have:=a1 ((w.alloc o1).alloc o2) o3
  rw [sz,sz]at this;exact this
theorem iH {v:Value} {w:World} (h:bM w v t) :
  Calls Tryd.prog 55 #[v, .int .i64 lo, .int .i64 hi] w (nZ w.heap.size w (ax t) (kI t lo hi)):=by
 obtain⟨nv,rfl,hn⟩:=h
 obtain⟨⟨ao,cap,rfl⟩,hlen⟩:=hn.len
 obtain⟨W0,hW0⟩:=bP (((w.alloc (.cells #[.slice ao t.nodes.length cap, .int .i64 t.root] 32)).alloc (.cells #[.int .i64 lo] 3)).alloc (.cells #[.int .i64 hi] 3))
 have hb0:ah w W0:=by rw [hW0];exact ag
 have hz0:W0.heap.size=w.heap.size+3:=by rw [hW0];simp
 have YQ:∀(fn:Fn) (first cap:Array Value) (w:World),(Instr.makeFunc fn first cap).run Tryd.prog w = .ok (.func fn first cap) w:=fun _ _ _ _=>rfl
 have HK:=hdd (by rw [hW0];exact Bo _ _ _ _ :
  W0.heap[w.heap.size]?=some (.cells #[.slice ao t.nodes.length cap, .int .i64 t.root] 32)/\W0.heap[w.heap.size+1]?=some (.cells #[.int .i64 lo] 3)/\W0.heap[w.heap.size+2]?=some (.cells #[.int .i64 hi] 3))
 have iq:=hdd (jt (t:=t) (w:=W0) (v:= .agg #[.slice ao t.nodes.length cap, .int .i64 t.root]) ⟨_,rfl,hn.below hb0 aH⟩)
 have HN:=hdd hn
 obtain⟨c0,c1⟩:W0.cell? ⟨w.heap.size,0,none⟩=some (.slice ao t.nodes.length cap)/\W0.cell? ⟨w.heap.size,1,none⟩=some (.int .i64 t.root):=by simp [World.cell?,HK.out.1]
 clear hn
 go_enter Tryd.func55,Tryd.ntmps55
 go_upto_region 1 with (fail)
 rw [<-hW0]
 clear hW0
 by_cases hf:ax t=0
 ·rw [hf]at iq
  have HV:=hdd (cS hf)
  have Yd:=hdd hf
  go_upto_region 4 with ((go_at_call 73;(with_reducible refine iq.out.mono ?_);rintro e w1 ⟨rfl,hb1⟩))
  have hz1:w.heap.size+3<=w1.heap.size:=by have:=hb1.size;omega
  obtain⟨W9,jz⟩:=bP (((w1.alloc (.cells #[.slice none 0 0] 63)).alloc (.cells #[.int .i64 0] 36)).alloc (.cells #[(.func (.func 87) #[] #[.pointer (some ⟨w.heap.size,0,none⟩), .pointer (some ⟨w.heap.size+1,0,none⟩), .pointer (some ⟨w.heap.size+2,0,none⟩), .pointer (some ⟨w1.heap.size+1,0,none⟩), .pointer (some ⟨w1.heap.size,0,none⟩), .pointer (some ⟨w1.heap.size+2,0,none⟩)])] 140))
  have pS:ah w1 W9:=by rw [jz];exact ag
  have PI:W9.heap.size=w1.heap.size+3:=by rw [jz];simp
  obtain⟨n1,n2,n3⟩:=(by rw [jz];exact Bo _ _ _ _ :
   W9.heap[w1.heap.size]?=some (.cells #[.slice none 0 0] 63)/\W9.heap[w1.heap.size+1]?=some (.cells #[.int .i64 0] 36)/\W9.heap[w1.heap.size+2]?=some (.cells #[(.func (.func 87) #[] #[.pointer (some ⟨w.heap.size,0,none⟩), .pointer (some ⟨w.heap.size+1,0,none⟩), .pointer (some ⟨w.heap.size+2,0,none⟩), .pointer (some ⟨w1.heap.size+1,0,none⟩), .pointer (some ⟨w1.heap.size,0,none⟩), .pointer (some ⟨w1.heap.size+2,0,none⟩)])] 140))
  have Nb:ah W0 W9:=Below.trans' hb1 pS hb1.size
  have m0:W9.heap[w.heap.size]?=_:=(Nb.block _ af).trans HK.out.1
  have HA:=hdd (show ki w w1.heap.size (.slice ao t.nodes.length cap) t.root lo hi W9 (fe []) from
   ⟨Below.trans' hb0 Nb hb0.size,af,af,m0,(Nb.block _ af).trans HK.out.2.1,(Nb.block _ af).trans HK.out.2.2,n2,n3,_,n1,fun b h=>by simp [Value.ownBlock]at h,fun es h=>by
    have:es=[]:=by simpa [fe] using h.symm
    subst this;exact au.nil _ _⟩)
  have PL:=HV.out.2
  obtain⟨l,h,GJ,-,-⟩:=PL
  have lg:=hdd (xO HN.out (ob:=w1.heap.size) (lo:=lo) (hi:=hi) 12 t.root _ _ _ _ [] W9 GJ (by rw [List.nil_append];exact Jp HV.out.1 HV.out.2) HA.out)
  rw [List.nil_append,all_eq HV.out.2]at lg
  have d1:W9.cell? ⟨w.heap.size,1,none⟩=some (.int .i64 t.root):=by simp [World.cell?,m0]
  have d2:W9.cell? ⟨w1.heap.size+2,0,none⟩=some (.func (.func 87) #[] #[.pointer (some ⟨w.heap.size,0,none⟩), .pointer (some ⟨w.heap.size+1,0,none⟩), .pointer (some ⟨w.heap.size+2,0,none⟩), .pointer (some ⟨w1.heap.size+1,0,none⟩), .pointer (some ⟨w1.heap.size,0,none⟩), .pointer (some ⟨w1.heap.size+2,0,none⟩)]):=by simp [World.cell?,n3]
  have Ik:=hdd fun w5 st (ha:ki w w1.heap.size (.slice ao t.nodes.length cap) t.root lo hi w5 st)=>(by
   obtain⟨v,o1,o2,o3⟩:=ha.out
   exact⟨v,by simp [World.cell?,o1],by simp [World.cell?,ha.err],ha.below,o3⟩ :
   ∃v,w5.cell? ⟨w1.heap.size,0,none⟩=some v/\w5.cell? ⟨w1.heap.size+1,0,none⟩=some (.int .i64 (if st.isSome then 0 else 1))/\ah w w5/\∀es,st=some es->au (w1.heap.size+3) w5 v es)
  go_upto_region 8 with (fail)
  rw [show w.heap.size+1+1=w.heap.size+2 from rfl,show w1.heap.size+1+1=w1.heap.size+2 from rfl,<-jz]
  clear jz n1 n2 n3 m0 Nb pS c0 c1 GJ HA hf
  cases hr:kI t lo hi with
  |none=>
   rw [hr]at lg
   have HR:=hdd hr
   clear hr
   go_upto_region 10 with ((go_at_call 87;(with_reducible refine lg.out.mono ?_);rintro e w5 ⟨rfl,-,Tv⟩;obtain⟨v5,e0,e1,cu,-⟩:=Ik.out _ _ Tv;simp only [Option.isSome_none]at e1))
   go_quiet (fail)
   go_wp2
   exact bodyPost_ret (v:= .tuple #[.slice none 0 0, .int .i64 1]) (by simp [results,Tryd.results55,go_sem, *]) rfl ⟨ag,fun h=>absurd Yd.out h,fun _=>by rw [HR.out]⟩
  |some es=>
   rw [hr]at lg
   have HR:=hdd hr
   clear hr
   go_wp2_with ((go_at_call 87;(with_reducible refine lg.out.mono ?_);rintro e w5 ⟨rfl,-,Tv⟩;obtain⟨v5,e0,e1,cu,iD⟩:=Ik.out _ _ Tv;simp only [Option.isSome_some,if_true]at e1;have CE:=(iD es rfl).mono (show w.heap.size<=w1.heap.size+3 by omega);obtain⟨s5,c5,rfl⟩:=CE.isSlice))
   exact bodyPost_ret (v:= .tuple #[.slice s5 es.length c5, .int .i64 0]) (by simp [results,Tryd.results55,go_sem, *]) rfl ⟨ag,fun h=>absurd Yd.out h,fun _=>by rw [HR.out];exact⟨_,rfl,(by repeat (first|assumption|with_reducible refine au.alloc ?_ _|with_reducible refine au.drewN ?_ _|with_reducible refine au.drew ?_))⟩⟩
 ·have d2:(ax t != 0)=true:=by simp [hf]
  obtain⟨F,hF⟩:=bt (ax t)
  have HF1:=hdd hF
  have OY:=hdd hf
  rw [hF]at iq d2
  clear hF hf
  go_wp2_with ((go_at_call 73;(with_reducible refine iq.out.mono ?_);rintro e w1 ⟨rfl,hb1⟩;have cZ:=Below.trans' hb0 hb1 hb0.size))
  exact bodyPost_ret (v:= .tuple #[.slice none 0 0, .int .i64 F]) (by simp [results,Tryd.results55,go_sem, *]) rfl ⟨ag,fun _=>by rw [HF1.out],fun h=>absurd h OY.out⟩
end
end Go.Proofs.YtmljjfhgciaceaaDoor
