/- Texts of mine that come as one: AllA AllB AllK AllW AllM. -/
import Derived.Test.YtnjfkcimboidnaaDoorMerged
import Derived.Test.YtnjfkcimboidnaaDoorPA
import Derived.Test.YtnjfkcimboidnaaDoorKG
import Derived.Laws.OwnMore
import Derived.Test.YtnjfkcimboidnaaDoorNC
import Derived.BigQuiet
import Derived.Deep.QuietTactic
import Derived.Deep.CutBlock
import Derived.Deep.RegionHeld3
import Derived.Test.YtnjfkcimboidnaaDoorSX
import Derived.Laws.EntriesVeiled
/- What the walk of tree.All needs: appending entries to a row of one's own; the state of its closure. -/
namespace Go.Proofs.YtnjfkcimboidnaaDoor
open Go.RowKit
set_option maxRecDepth 100000 in
theorem run_append_ents {B:Nat} {w:World} {v vx:Value} {es xs:List Ent} (ho:OwnEnts B w v es) (hx:EntsAt w vx xs) (h1:es.length+xs.length≤1000000) (hB:B≤w.heap.size) (ty:TypeId) :
  ∃v' w',(Builtin.append_ #[94,94] ty #[v,vx]).run Tryd.prog w = .ok v' w'∧OwnEnts B w' v' (es++xs)∧w.grownBy w' v.ownBlock∧(v'.ownBlock=v.ownBlock∨v'.ownBlock=some w.heap.size):=by
 obtain⟨i0,z,hi0,hz,hz1,hz2,hz3⟩:=info_some Tryd.iEnt
 have h:=hx
 obtain⟨ao,cap,rfl,a1,a2,a3,a4,a5⟩:=hx
 cases ao with
 |none=>
  have h0:xs.length=0:=by have:=a4 rfl;omega
  obtain rfl:=List.eq_nil_of_length_eq_zero h0
  obtain rfl:cap=0:=a4 rfl
  refine⟨v,w,run_append_owned_none w B 94 ty 96 i0 7 Tryd.underlying94 hi0 v es.length _ ho.row,by simpa using ho,⟨rfl,rfl,rfl,Nat.le_refl _,fun _ _ _=>rfl⟩, .inl rfl⟩
 |some ad=>
  obtain⟨_,g1,g2⟩:=h.news enEnt_length
  obtain⟨v',w',hr,h2,h3,_,h5⟩:=run_append_own_at (P:=Tryd.prog) w B 94 ty 96 i0 z 7 56 Tryd.underlying94 hi0 hz hz1 hz2 hz3 (by decide) v es.length _ ho.row ad xs.length cap (xs.flatMap enEnt) g1 g2 (enEnt_one xs) (by unfold maxLen;omega) (by omega) hB
  refine⟨v',w',hr,⟨?_⟩,h3,h5⟩
  rw [List.flatMap_append,List.length_append];exact h2
theorem step_append_ran {P:Program} {ops:Array Oper} {o:Oper} {a:Act} {w:World} {K:Act→World→Prop} {Q:Exit→Act→World→Prop} {E:Prop}
  (hg:o.guard=none) (d x:Operand) (dT sT:TypeId) (hop:o.op=Op.call { callee:=Callee.builtin Builtin.append,args:=#[d,x],argTypes:=#[dT,sT] })
  (v u:Value) (hd:a.eval d=v) (hx:a.eval x=u) {v':Value} {w':World} (hr:(Builtin.append_ #[dT,sT] o.type #[v,u]).run P w = .ok v' w') (hK:K (a.put o.dst v') w') :
  if Region.wanted o (yielded ops a.tmps)=true then Oper.wp P o a w K Q else E:=by
 have hw:Region.wanted o (yielded ops a.tmps)=true:=by simp [Region.wanted,hg]
 rw [if_pos hw]
 unfold Oper.wp execOp
 simp only [hop,resolve,invoke,builtin,Sem.run_bind,Sem.run_pure,Result.andThen_ok,List.map_toArray,List.map_cons,List.map_nil,hd,hx,hr]
 exact hK
structure AllAt (w0:World) (ob:Nat) (tv:Value) (root lo hi:Int) (w:World) (st:Option (List Ent)):Prop where
 below:Below w0.heap.size w0 w
 lt:w0.heap.size+2<ob
 size:ob+2<w.heap.size
 box:w.heap[w0.heap.size]?=some (.cells #[tv, .int .i64 root] 32)
 low:w.heap[w0.heap.size+1]?=some (.cells #[.int .i64 lo] 3)
 high:w.heap[w0.heap.size+2]?=some (.cells #[.int .i64 hi] 3)
 err:w.heap[ob+1]?=some (.cells #[.int .i64 (if st.isSome then 0 else 1)] 36)
 walk:w.heap[ob+2]?=some (.cells #[.func (.func 71) #[] #[.pointer (some ⟨w0.heap.size,0,none⟩), .pointer (some ⟨w0.heap.size+1,0,none⟩), .pointer (some ⟨w0.heap.size+2,0,none⟩), .pointer (some ⟨ob+1,0,none⟩), .pointer (some ⟨ob,0,none⟩), .pointer (some ⟨ob+2,0,none⟩)]] 131)
 out:∃v,w.heap[ob]?=some (.cells #[v] 94)∧(∀b,v.ownBlock=some b→ob+2<b∧b<w.heap.size)∧∀es,st=some es→OwnEnts (ob+3) w v es
def OutRow (ob:Nat) (w:World) (b:Nat):Prop:=∃v,w.heap[ob]?=some (.cells #[v] 94)∧v.ownBlock=some b
structure AllTurn (ob:Nat) (w w':World):Prop where
 turn:Turn (fun b=>b=ob∨b=ob+1∨OutRow ob w b) w w'
 row:∀b,OutRow ob w' b→OutRow ob w b∨w.heap.size≤b
theorem AllTurn.refl (ob:Nat) (w:World):AllTurn ob w w:=⟨Turn.refl _ _,fun _ h=> .inl h⟩
theorem AllTurn.trans {ob:Nat} {a b c:World} (h:AllTurn ob a b) (k:AllTurn ob b c):AllTurn ob a c:=by
 refine⟨h.turn.trans' k.turn fun i hi hx=>?_,fun i hi=>?_⟩
 ·rcases hx with hx|hx|hx
  ·exact .inl hx
  ·exact .inr (.inl hx)
  ·rcases h.row i hx with h1|h1
   ·exact .inr (.inr h1)
   ·omega
 ·have:=h.turn.size
  rcases k.row i hi with h1|h1
  ·rcases h.row i h1 with h2|h2
   ·exact .inl h2
   ·exact .inr h2
  ·exact .inr (by omega)
theorem AllTurn.of {ob B:Nat} {w w':World} (h:Below B w w') (hB:w.heap.size≤B) (hob:ob<w.heap.size):AllTurn ob w w':=
 ⟨Turn.of h hB,fun b ⟨v,h1,h2⟩=> .inl ⟨v,(h.block ob (by omega)).symm.trans h1,h2⟩⟩
theorem AllAt.later {w0:World} {ob:Nat} {tv:Value} {root lo hi:Int} {w w':World} {st:Option (List Ent)} (h:AllAt w0 ob tv root lo hi w st) {C:Nat} (hb:Below C w w') (hC:w.heap.size≤C):AllAt w0 ob tv root lo hi w' st:=by
 have hs:=h.size
 have hl:=h.lt
 have hz:=hb.size
 obtain⟨v,o1,o2,o3⟩:=h.out
 have g:∀b,b<w.heap.size→w'.heap[b]?=w.heap[b]?:=fun b hlt=>hb.block b (by omega)
 exact⟨Below.trans' h.below (hb.mono hC) h.below.size,hl,by omega,(g _ (by omega)).trans h.box,(g _ (by omega)).trans h.low,(g _ (by omega)).trans h.high,(g _ (by omega)).trans h.err,(g _ (by omega)).trans h.walk,v,(g _ (by omega)).trans o1,fun b hb=>⟨(o2 b hb).1,Nat.lt_of_lt_of_le (o2 b hb).2 hz⟩,fun es he=>(o3 es he).below hb hC⟩
theorem AllAt.row {w0:World} {ob:Nat} {tv:Value} {root lo hi:Int} {w:World} {st:Option (List Ent)} (h:AllAt w0 ob tv root lo hi w st) {b:Nat} (hb:OutRow ob w b):ob+2<b∧b<w.heap.size:=by
 obtain⟨v,o1,o2,_⟩:=h.out
 obtain⟨u,h1,h2⟩:=hb
 rw [o1]at h1
 obtain rfl:v=u:=by simpa using h1
 exact o2 b h2
theorem AllTurn.stay {ob:Nat} {w w':World} (h:AllTurn ob w w') {b:Nat} (hb:b<w.heap.size) (h1:b≠ob) (h2:b≠ob+1) (h3:¬OutRow ob w b):w'.heap[b]?=w.heap[b]?:=
 h.turn.block b hb (fun hx=>by rcases hx with hx|hx|hx;exact h1 hx;exact h2 hx;exact h3 hx)
end Go.Proofs.YtnjfkcimboidnaaDoor

/- The state of tree.All's closure, behind a call of 'merged' and two stores. -/
namespace Go.Proofs.YtnjfkcimboidnaaDoor
open Go.RowKit
theorem vis_self {t:Tr} {f:Nat} {n a b:Int} {l:List Int} {h:Nat} (hv:vis t (f+1) n a b=some (l,h)):n∈l:=by
 obtain⟨x,hx⟩:=vis_at hv
 obtain⟨_,⟨_,_,rfl,_⟩|⟨_,_,l',h',_,rfl,_⟩⟩:=vis_inner hv hx <;> simp
theorem vis_few {t:Tr} {f:Nat} {n a b:Int} {l:List Int} {h:Nat} {x:Nd} (hv:vis t (f+1) n a b=some (l,h)) (hx:t.at? n=some x):x.buf.length+x.ents.length≤14:=by
 have:=vis_small hv n (vis_self hv)
 have hof:t.of n=x.ents++x.buf:=by unfold Tr.of;rw [hx]
 rw [hof,List.length_append]at this;omega
theorem heap_set1 {w:World} {b:Nat} {u v:Value} {T:TypeId} {fr:Nat×Nat} (h:w.heap[b]?=some (.cells #[u] T fr)):(w.setCell ⟨b,0,none⟩ v).heap[b]?=some (.cells #[v] T fr):=by
 have:=heap_setCell_same (off:=0) (v:=v) h
 simpa using this
theorem AllAt.stored {w0:World} {ob:Nat} {tv:Value} {root lo hi:Int} {wr w':World} {st st':Option (List Ent)} (h:AllAt w0 ob tv root lo hi wr st) {v v':Value} {E:Int}
  (hv:wr.heap[ob]?=some (.cells #[v] 94)) (hT:Turn (fun b=>v.ownBlock=some b) wr w') (hv':∀b,v'.ownBlock=some b→v.ownBlock=some b∨wr.heap.size≤b) (hE:E=if st'.isSome then 0 else 1) (hlt':∀b,v'.ownBlock=some b→b<w'.heap.size)
  (hO:∀es,st'=some es→OwnEnts (ob+3) w' v' es) :
  AllAt w0 ob tv root lo hi ((w'.setCell ⟨ob,0,none⟩ v').setCell ⟨ob+1,0,none⟩ (.int .i64 E)) st'∧AllTurn ob wr ((w'.setCell ⟨ob,0,none⟩ v').setCell ⟨ob+1,0,none⟩ (.int .i64 E)) ∧
   ∀b,OutRow ob ((w'.setCell ⟨ob,0,none⟩ v').setCell ⟨ob+1,0,none⟩ (.int .i64 E)) b→v.ownBlock=some b∨wr.heap.size≤b:=by
 have hl:=h.lt
 have hz:=h.size
 have hb:=h.below.size
 have hT1:=hT.size
 obtain⟨u,o1,o2,o3⟩:=h.out
 obtain rfl:u=v:=by rw [hv]at o1;simpa using o1.symm
 have g:∀b,b<wr.heap.size→b≤ob+2→w'.heap[b]?=wr.heap[b]?:=fun b hb1 hb2=>hT.block b hb1 (fun hx=>by have:=(o2 b hx).1;omega)
 have g2:∀b,b≠ob→b≠ob+1→((w'.setCell ⟨ob,0,none⟩ v').setCell ⟨ob+1,0,none⟩ (.int .i64 E)).heap[b]?=w'.heap[b]?:=fun b h1 h2=>by
  rw [Below.heap_setCell _ _ _ _ (by show b≠ob+1;exact h2),Below.heap_setCell _ _ _ _ (by show b≠ob;exact h1)]
 have hout:((w'.setCell ⟨ob,0,none⟩ v').setCell ⟨ob+1,0,none⟩ (.int .i64 E)).heap[ob]?=some (.cells #[v'] 94):=by
  rw [Below.heap_setCell _ _ _ _ (by show ob≠ob+1;omega)]
  exact heap_set1 ((g ob (by omega) (by omega)).trans hv)
 have hrow:∀b,OutRow ob ((w'.setCell ⟨ob,0,none⟩ v').setCell ⟨ob+1,0,none⟩ (.int .i64 E)) b→u.ownBlock=some b∨wr.heap.size≤b:=fun b ⟨x,hx1,hx2⟩=>by
  rw [hout]at hx1
  obtain rfl:v'=x:=by simpa using hx1
  exact hv' b hx2
 refine⟨⟨?_,hl,by simp;omega,?_,?_,?_,?_,?_,v',hout,fun b hb'=>⟨?_,by simp;exact hlt' b hb'⟩,fun es he=>?_⟩,⟨⟨?_,?_,?_,by simp;exact hT1,fun b hb1 hx=>?_⟩,fun b hb'=>?_⟩,hrow⟩
 ·have h1:Below w0.heap.size w0 w':=hT.below h.below hb (fun i hi=>by have:=(o2 i hi).1;omega)
  exact(h1.setCell (by show w0.heap.size≤ob;omega) _).setCell (by show w0.heap.size≤ob+1;omega) _
 ·rw [g2 _ (by omega) (by omega),g _ (by omega) (by omega)];exact h.box
 ·rw [g2 _ (by omega) (by omega),g _ (by omega) (by omega)];exact h.low
 ·rw [g2 _ (by omega) (by omega),g _ (by omega) (by omega)];exact h.high
 ·rw [hE]
  refine heap_set1 (u:= .int .i64 (if st.isSome then 0 else 1)) ?_
  rw [Below.heap_setCell _ _ _ _ (by show ob+1≠ob;omega),g _ (by omega) (by omega)];exact h.err
 ·rw [g2 _ (by omega) (by omega),g _ (by omega) (by omega)];exact h.walk
 ·rcases hv' b hb' with h1|h1
  ·exact(o2 b h1).1
  ·omega
 ·exact(hO es he).block fun b hb'=>g2 b (by rcases hv' b hb' with h1|h1;have:=(o2 b h1).1;omega;omega) (by rcases hv' b hb' with h1|h1;have:=(o2 b h1).1;omega;omega)
 ·exact hT.os
 ·exact hT.tape
 ·exact hT.output
 ·rw [g2 b (fun e=>hx (.inl e)) (fun e=>hx (.inr (.inl e)))]
  exact hT.block b hb1 (fun e=>hx (.inr (.inr ⟨u,hv,e⟩)))
 ·rcases hrow b hb' with h1|h1
  ·exact .inl ⟨u,hv,h1⟩
  ·exact .inr h1
end Go.Proofs.YtnjfkcimboidnaaDoor

/- What the second loop of tree.All's closure needs. -/
namespace Go.Proofs.YtnjfkcimboidnaaDoor
open Go.RowKit
theorem visKids_get {go:Int→Int→Int→Option (List Int×Nat)} {x:Nd} {a b:Int}:∀{ks:List Int} {i:Nat} {l:List Int} {h:Nat},visKids go x a b ks i=some (l,h)→∀(m:Nat) (K:Int),ks[m]?=some K→∃a' b' l' h',go K a' b'=some (l',h')
 |[],_,_,_,_=>fun _ _ hm=>by simp at hm
 |k::ks,i,l,h,hv=>by
  unfold visKids at hv
  split at hv
  ·split at hv
   ·rename_i l1 h1 l2 h2 e1 e2
    intro m K hm
    cases m with
    |zero=>simp only [List.getElem?_cons_zero,Option.some.injEq]at hm;subst hm;exact⟨_,_,_,_,e1⟩
    |succ m=>exact visKids_get e2 m K (by simpa using hm)
   ·cases hv
  ·cases hv
theorem vis_kidAt {t:Tr} {f:Nat} {n a b:Int} {l:List Int} {h:Nat} {x:Nd} (hv:vis t (f+1) n a b=some (l,h)) (hx:t.at? n=some x) :
  x.kids.length≤4∧(x.kids≠[]→x.keys.length+1=x.kids.length)∧∀(m:Nat) (K:Int),x.kids[m]?=some K→∃a' b' l' h',vis t f K a' b'=some (l',h'):=by
 obtain⟨_,⟨_,hl,_,_⟩|⟨_,hi,l',h',hk,_,_⟩⟩:=vis_inner hv hx
 ·obtain⟨_,h2,_⟩:=hl
  rw [h2]
  exact⟨by simp,fun h=>absurd rfl h,fun _ _ hm=>by simp at hm⟩
 ·obtain⟨_,_,h3,h4,_⟩:=hi
  exact⟨h3,fun _=>h4,fun m K hm=>visKids_get hk m K hm⟩
theorem kidsL_append {go:Int→List Ent} {x:Nd} {lo hi:Int}:∀(ps bs:List Int) (i:Nat),kidsL go x lo hi (ps++bs) i=kidsL go x lo hi ps i++kidsL go x lo hi bs (i+ps.length)
 |[],bs,i=>by simp [kidsL]
 |a::ps,bs,i=>by
  rw [List.cons_append,kidsL,kidsL,kidsL_append ps bs (i+1),List.append_assoc,List.length_cons,show i+(ps.length+1)=i+1+ps.length from by omega]
theorem kidsL_take {go:Int→List Ent} {x:Nd} {lo hi:Int} {k:Nat} {K:Int} (h:x.kids[k]?=some K) :
  kidsL go x lo hi (x.kids.take (k+1)) 0=kidsL go x lo hi (x.kids.take k) 0++(if goesTo x lo hi k then go K else []):=by
 obtain⟨hk,rfl⟩:=List.getElem?_eq_some_iff.1 h
 rw [List.take_succ_eq_append_getElem hk,kidsL_append,Nat.zero_add,List.length_take,Nat.min_eq_left (by omega)]
 simp [kidsL]
theorem kidsL_part {go:Int→List Ent} {x:Nd} {lo hi:Int} (k:Nat):∃R,kidsL go x lo hi x.kids 0=kidsL go x lo hi (x.kids.take k) 0++R:=
 ⟨_,by rw [←kidsL_append,List.take_append_drop]⟩
theorem goesTo_yes {x:Nd} {lo hi:Int} {m:Nat} (h1:m≠0→∃F,x.keys[m-1]?=some F∧F<hi) (h2:m≠x.keys.length→∃T,x.keys[m]?=some T∧lo<T):goesTo x lo hi m=true:=by
 simp only [goesTo,Bool.and_eq_true,Bool.or_eq_true,decide_eq_true_eq,List.getD_eq_getElem?_getD]
 refine⟨?_,?_⟩
 ·by_cases h:m=0
  ·exact .inl h
  ·obtain⟨F,e,h⟩:=h1 h;rw [e];exact .inr h
 ·by_cases h:m=x.keys.length
  ·exact .inl h
  ·obtain⟨T,e,h⟩:=h2 h;rw [e];exact .inr h
theorem goesTo_no1 {x:Nd} {lo hi:Int} {m:Nat} {F:Int} (h0:m≠0) (h1:x.keys[m-1]?=some F) (h2:¬F<hi):goesTo x lo hi m=false:=by
 simp only [goesTo,List.getD_eq_getElem?_getD,h1]
 simp [h0,h2]
theorem goesTo_no2 {x:Nd} {lo hi:Int} {m:Nat} {T:Int} (h1:x.keys[m]?=some T) (h2:¬lo<T):goesTo x lo hi m=false:=by
 have h3:=(List.getElem?_eq_some_iff.1 h1).1
 have h4:m≠x.keys.length:=by omega
 simp only [goesTo,List.getD_eq_getElem?_getD,h1]
 simp [h4,h2]
structure Mid (w0:World) (ob:Nat) (tv:Value) (root lo hi:Int) (w:World) (nb:Nat) (bo:Option Obj) (wr:World) (st:Option (List Ent)):Prop where
 at_:AllAt w0 ob tv root lo hi wr st
 turn:AllTurn ob w wr
 node:wr.heap[nb]?=bo
 lt:ob+2<nb∧nb<wr.heap.size
 row:∀b,OutRow ob wr b→b≠nb
theorem Mid.next {w0:World} {ob:Nat} {tv:Value} {root lo hi:Int} {w:World} {nb:Nat} {bo:Option Obj} {wr w':World} {st st':Option (List Ent)} (h:Mid w0 ob tv root lo hi w nb bo wr st)
  (ha:AllAt w0 ob tv root lo hi w' st') (ht:AllTurn ob wr w'):Mid w0 ob tv root lo hi w nb bo w' st':=by
 obtain⟨h1,h2,h3,⟨h4,h5⟩,h6⟩:=h
 refine⟨ha,h2.trans ht,(ht.stay h5 (by omega) (by omega) (fun hx=>h6 _ hx rfl)).trans h3,⟨h4,by have:=ht.turn.size;omega⟩,fun b hb=>?_⟩
 rcases ht.row b hb with h|h
 ·exact h6 b h
 ·omega
theorem Mid.later {w0:World} {ob:Nat} {tv:Value} {root lo hi:Int} {w:World} {nb:Nat} {bo:Option Obj} {wr w':World} {st:Option (List Ent)} (h:Mid w0 ob tv root lo hi w nb bo wr st) {C:Nat}
  (hb:Below C wr w') (hC:wr.heap.size≤C):Mid w0 ob tv root lo hi w nb bo w' st:=
 h.next (h.at_.later hb hC) (AllTurn.of hb hC (by have:=h.at_.size;omega))
theorem Mid.list {w0:World} {ob:Nat} {tv:Value} {root lo hi:Int} {w:World} {nb:Nat} {bo:Option Obj} {wr w':World} {st:Option (List Ent)} (_h:Mid w0 ob tv root lo hi w nb bo wr st)
  (ht:AllTurn ob wr w') {B:Nat} {v:Value} {LL:List Ent} (hB:ob+2<B) (ho:OwnEnts B wr v LL) (hr:∀b,OutRow ob wr b→v.ownBlock≠some b) :
  OwnEnts B w' v LL∧∀b,OutRow ob w' b→v.ownBlock≠some b:=by
 refine⟨ho.block fun g hg=>ht.stay (ho.lt g hg).2 (by have:=(ho.lt g hg).1;omega) (by have:=(ho.lt g hg).1;omega) (fun hx=>hr g hx hg),fun b hb e=>?_⟩
 rcases ht.row b hb with h1|h1
 ·exact hr b h1 e
 ·have:=(ho.lt b e).2;omega
end Go.Proofs.YtnjfkcimboidnaaDoor

/- The walk of tree.All's closure. -/
namespace Go.Proofs.YtnjfkcimboidnaaDoor
open Go.RowKit
set_option maxRecDepth 100000 in
set_option maxHeartbeats 6000000 in
theorem allWalk_step {t:Tr} {tv:Value} {w0:World} (hn:NodesAt w0 tv t.nodes) {ob:Nat} {lo hi:Int} {f:Nat}
  (IH:∀(n a b:Int) (l:List Int) (h:Nat) (P:List Ent) (w:World),vis t f n a b=some (l,h)→PGood (P++walkL t lo hi f n)→AllAt w0 ob tv t.root lo hi w (bagC P) →
   Calls Tryd.prog 71 #[.int .i64 n, .pointer (some ⟨w0.heap.size,0,none⟩), .pointer (some ⟨w0.heap.size+1,0,none⟩), .pointer (some ⟨w0.heap.size+2,0,none⟩), .pointer (some ⟨ob+1,0,none⟩), .pointer (some ⟨ob,0,none⟩), .pointer (some ⟨ob+2,0,none⟩)] w fun e w'=>e = .returned (.tuple #[])∧AllTurn ob w w'∧AllAt w0 ob tv t.root lo hi w' (bagC (P++walkL t lo hi f n)))
  {n a b:Int} {l:List Int} {h:Nat} {P:List Ent} {w:World} (hv:vis t (f+1) n a b=some (l,h)) (hP:PGood (P++walkL t lo hi (f+1) n)) (hA:AllAt w0 ob tv t.root lo hi w (bagC P)) :
  Calls Tryd.prog 71 #[.int .i64 n, .pointer (some ⟨w0.heap.size,0,none⟩), .pointer (some ⟨w0.heap.size+1,0,none⟩), .pointer (some ⟨w0.heap.size+2,0,none⟩), .pointer (some ⟨ob+1,0,none⟩), .pointer (some ⟨ob,0,none⟩), .pointer (some ⟨ob+2,0,none⟩)] w fun e w'=>e = .returned (.tuple #[])∧AllTurn ob w w'∧AllAt w0 ob tv t.root lo hi w' (bagC (P++walkL t lo hi (f+1) n)):=by
 obtain⟨x,hx⟩:=vis_at hv
 obtain⟨hn0,hn1,hn2⟩:=at?_get hx
 obtain⟨j,hj⟩:∃j:Nat,n=j:=⟨n.toNat,by omega⟩
 subst hj
 rw [Int.toNat_natCast]at hn1 hn2
 obtain⟨nb,noff,c,ev,kv,dv,bv,rfl,hnb,hE,hK,hD,hB,c0,c1,c2,c3,c4⟩:=node_later hn hA.below hn2
 obtain⟨ae,ne,rfl⟩:=hE.isSlice
 obtain⟨ak,nk,rfl⟩:=hK.isSlice
 obtain⟨ad,ndd,rfl⟩:=hD.isSlice
 obtain⟨ab,nbb,rfl⟩:=hB.isSlice
 have HA:=Lib.hid hA
 obtain⟨q0,q1⟩:w.cell? ⟨w0.heap.size,0,none⟩=some (.slice (some ⟨nb,noff,none⟩) t.nodes.length c)∧w.cell? ⟨w0.heap.size,1,none⟩=some (.int .i64 t.root):=by simp [World.cell?,hA.box]
 have hsz:=hA.size
 have hlt:=hA.lt
 have hbz:=hA.below.size
 have n0:nb<w.heap.size:=by omega
 have hixn:=fun w'=>idx_node (ab:=nb) (aoff:=noff) (n:=t.nodes.length) (cap:=c) (show (j:Int)=((j:Nat):Int) by rfl) hn1 w'
 obtain⟨W1,hW1⟩:∃W1,W1=w.alloc (.cells #[.bool x.leaf, .slice ae x.ents.length ne, .slice ak x.keys.length nk, .slice ad x.kids.length ndd, .slice ab x.buf.length nbb] 133):=⟨_,rfl⟩
 have hb1:Below w.heap.size w W1:=by rw [hW1];exact belowAuto
 have k1:W1.heap[w.heap.size]?=some (.cells #[.bool x.leaf, .slice ae x.ents.length ne, .slice ak x.keys.length nk, .slice ad x.kids.length ndd, .slice ab x.buf.length nbb] 133):=by rw [hW1];exact heap_new _ _ rfl
 have HA1:=Lib.hid (hA.later hb1 (Nat.le_refl _))
 have hz1:W1.heap.size=w.heap.size+1:=by rw [hW1];simp
 have HE:=Lib.hid hE
 have HB:=Lib.hid hB
 have HKK:=Lib.hid hK
 have HDD:=Lib.hid hD
 have HV:=Lib.hid hv
 have HPP:=Lib.hid hP
 have HXX:=Lib.hid hx
 have HIH:=Lib.hid IH
 have hsm:=vis_few hv hx
 clear hA hE hB hK hD hv hP hx IH
 go_enter Tryd.func71,Tryd.ntmps71
 go_upto_region 1 with (fail)
 rw [←hW1]
 have HS:=Lib.hid fun w' (hb:Below W1.heap.size W1 w')=>(by
  have b0:w'.heap[w.heap.size]?=_:=(hb.block _ (by omega)).trans k1
  simp [World.cell?,b0]:w'.cell? ⟨w.heap.size,1,none⟩=some (.slice ae x.ents.length ne)∧w'.cell? ⟨w.heap.size,4,none⟩=some (.slice ab x.buf.length nbb))
 have HLATE:=Lib.hid fun w' (hb:Below W1.heap.size W1 w')=>(HA1.out.later hb (Nat.le_refl _)).below
 have HCL:=Lib.hid fun w' (hb:Below W1.heap.size W1 w')=>cloneEnt_any (HB.out.below (HLATE.out w' hb) (Nat.le_refl _))
 have HEN:=Lib.hid fun w' (hb:Below W1.heap.size W1 w')=>HE.out.below (HLATE.out w' hb) (Nat.le_refl _)
 have b0:Below W1.heap.size W1 W1.drew:=(Below.refl _ _).drew
 have hs0:=HS.out _ b0
 clear hW1 q0 q1 c0 c1 c2 c3 c4 hixn
 go_cut [23,24,25] (fun lv ln z wx=>OwnEnts W1.heap.size wx lv (x.buf++x.ents)∧ln = .int .i64 ((x.buf++x.ents).length:Nat)∧z = .int .i64 0∧Below W1.heap.size W1 wx)
 case first=>
  go_region_held3 (fun w'=>w'.cell? ⟨w.heap.size,1,none⟩=some (.slice ae x.ents.length ne)∧w'.cell? ⟨w.heap.size,4,none⟩=some (.slice ab x.buf.length nbb))
   (first|with_reducible exact hs0|(with_reducible refine HS.out _ ?_;first|(with_reducible assumption)|exact belowAuto))
   (first
    |(go_at_call 72;(with_reducible refine(HCL.out _ b0).mono ?_);rintro e w5 ⟨v5,rfl,hown5,hb5⟩;have bw5:Below W1.heap.size W1 w5:=Below.trans' b0 hb5 (Nat.le_refl _);obtain⟨v6,w6,hrun,ho6,hg6,hl6⟩:=run_append_ents (B:=W1.heap.size) (w:=w5) (es:=x.buf) (xs:=x.ents) ⟨hown5⟩ (HEN.out w5 bw5) (by omega) bw5.size 94;have bw6:Below W1.heap.size W1 w6:=Below.grown bw5 hg6 bw5.size (fun k hk=>((OwnEnts.mk hown5).lt k hk).1);obtain⟨s5,c5,rfl⟩:=(OwnEnts.mk hown5).isSlice;obtain⟨s6,c6,rfl⟩:=ho6.isSlice)
    |(refine step_append_ran rfl (.tmp 20) (.tmp 22) 94 94 rfl _ _ rfl rfl hrun ?_))
  all_goals
   go_wp2_with fail
   go_meet
   exact⟨ho6,by simp,rfl,bw6⟩
 case rest=>
  obtain⟨hol,rfl,rfl,hbl⟩:=hcut
  obtain⟨ls,lc,rfl⟩:=hol.isSlice
  obtain⟨LL,hLL⟩:∃LL,x.buf++x.ents=LL:=⟨_,rfl⟩
  rw [hLL]at hol
  have hLLn:LL.length≤14:=by rw [←hLL,List.length_append];exact hsm
  have HLL:=Lib.hid hLL
  obtain⟨A,hA⟩:∃A,LL.filter (inRange lo hi)=A:=⟨_,rfl⟩
  have HAA:=Lib.hid hA
  have HKL:=Lib.hid (show walkL t lo hi (f+1) (j:Int)=A++kidsL (fun k=>walkL t lo hi f k) x lo hi x.kids 0 by
   rw [←hA,←hLL];show (match t.at? (j:Int) with|none=>_|some x=>_)=_;rw [HXX.out])
  clear hA hs0 b0 HS HCL HEN HLATE hsm
  have hA0:=Lib.hid (HA1.out.later hbl (Nat.le_refl _))
  have hT0:AllTurn ob w wc:=(AllTurn.of hb1 (Nat.le_refl _) (by omega)).trans (AllTurn.of hbl (Nat.le_refl _) (by omega))
  have hx0:wc.heap[w.heap.size]?=_:=(hbl.block _ (by omega)).trans k1
  have hrw:∀b,OutRow ob wc b→b<w.heap.size:=fun b ⟨u,h1,h2⟩=>(HA.out.row ⟨u,(hb1.block ob (by omega)).symm.trans ((hbl.block ob (by omega)).symm.trans h1),h2⟩).2
  have hwz:=hbl.size
  have hM0:Mid w0 ob (.slice (some ⟨nb,noff,none⟩) t.nodes.length c) t.root lo hi w w.heap.size (some (.cells #[.bool x.leaf, .slice ae x.ents.length ne, .slice ak x.keys.length nk, .slice ad x.kids.length ndd, .slice ab x.buf.length nbb] 133)) wc (bagC P):=⟨hA0.out,hT0,hx0,⟨by omega,by omega⟩,fun b hb=>by have:=hrw b hb;omega⟩
  have hr0:∀b,OutRow ob wc b→(Value.slice ls LL.length lc).ownBlock≠some b:=fun b hb h=>by have h1:=hrw b hb;have h2:=(hol.lt b h).1;omega
  rw [hLL]
  have HST:=Lib.hid (And.intro hM0 (And.intro hol hr0))
  have hobw:ob+2<W1.heap.size:=by omega
  clear hA0 hT0 hx0 hr0 hol hbl hLL k1 hrw hM0
  go_wp2_with fail
  go_loopg [25] LL.length (fun g i wr=>∃k:Nat,k≤LL.length∧g=LL.length-k∧i = .int .i64 k∧Hid (Mid w0 ob (.slice (some ⟨nb,noff,none⟩) t.nodes.length c) t.root lo hi w w.heap.size (some (.cells #[.bool x.leaf, .slice ae x.ents.length ne, .slice ak x.keys.length nk, .slice ad x.kids.length ndd, .slice ab x.buf.length nbb] 133)) wr (bagC (P++(LL.take k).filter (inRange lo hi)))∧OwnEnts W1.heap.size wr (.slice ls LL.length lc) LL∧∀b,OutRow ob wr b→(Value.slice ls LL.length lc).ownBlock≠some b))
  case atStart=>exact⟨0,Nat.zero_le _,rfl,rfl,by have:=HST.out;exact Lib.hid (by simpa using this)⟩
  case round=>
   clear HST
   obtain⟨k,hk,rfl,rfl,HR⟩:=hrel
   obtain⟨hM,ho,hr⟩:=HR.out
   by_cases hlt2:k<LL.length
   ·obtain⟨_,_,hv,-,-,-,-,h5⟩:=ho.at (by omega)
    injection hv with hv1 _ hv3
    subst hv3
    obtain⟨eb,eoff,hla,heb,hec⟩:=h5 (by omega)
    subst hla
    subst hv1
    obtain⟨y0,y1,y2,y3,y4,y5,y6⟩:=ent_cells (Below.refl _ _) heb hec hlt2
    obtain⟨y,hy⟩:∃y,LL[k]=y:=⟨_,rfl⟩
    rw [hy]at y0 y1 y2 y3 y4 y5 y6
    have HY:=Lib.hid hy
    have hwz:w.heap.size<wr.heap.size:=hM.lt.2
    have hoz:ob+2<wr.heap.size:=hM.at_.size
    obtain⟨W8,hW8⟩:∃W8,W8=wr.alloc (.cells #[.int .i64 y.key, .int .i64 y.is.c, .int .i64 y.is.s, .int .i64 y.is.mi, .int .i64 y.is.ma, .int .i64 y.is.t, .int .i64 y.is.l] 96):=⟨_,rfl⟩
    have hb8:Below wr.heap.size wr W8:=by rw [hW8];exact belowAuto
    have hz8:W8.heap.size=wr.heap.size+1:=by rw [hW8];simp
    have k8:W8.heap[wr.heap.size]?=some (.cells #[.int .i64 y.key, .int .i64 y.is.c, .int .i64 y.is.s, .int .i64 y.is.mi, .int .i64 y.is.ma, .int .i64 y.is.t, .int .i64 y.is.l] 96):=by rw [hW8];exact heap_new _ _ rfl
    have hM8:=hM.later hb8 (Nat.le_refl _)
    obtain⟨ho8,hr8⟩:=hM.list (AllTurn.of hb8 (Nat.le_refl _) (by omega)) hobw ho hr
    have htk:(LL.take (k+1)).filter (inRange lo hi)=(LL.take k).filter (inRange lo hi)++(if inRange lo hi y=true then [y]else []):=by
     rw [List.take_succ_eq_append_getElem hlt2,hy,List.filter_append]
     by_cases h:inRange lo hi y=true
     ·rw [if_pos h,List.filter_cons_of_pos h];rfl
     ·rw [if_neg h,List.filter_cons_of_neg h];rfl
    have HTK:=Lib.hid htk
    have HALL:=Lib.hid (And.intro hM8 (And.intro ho8 hr8))
    have hix:=fun w'=>idx_ents (ab:=eb) (aoff:=eoff) (n:=LL.length) (cap:=lc) (show (k:Int)=((k:Nat):Int) by rfl) hlt2 w'
    obtain⟨s0,s1,s2,s3,s4,s5,s6⟩:W8.cell? ⟨wr.heap.size,0,none⟩=some (.int .i64 y.key)∧W8.cell? ⟨wr.heap.size,1,none⟩=some (.int .i64 y.is.c)∧W8.cell? ⟨wr.heap.size,2,none⟩=some (.int .i64 y.is.s)∧W8.cell? ⟨wr.heap.size,3,none⟩=some (.int .i64 y.is.mi)∧W8.cell? ⟨wr.heap.size,4,none⟩=some (.int .i64 y.is.ma)∧W8.cell? ⟨wr.heap.size,5,none⟩=some (.int .i64 y.is.t)∧W8.cell? ⟨wr.heap.size,6,none⟩=some (.int .i64 y.is.l):=by simp [World.cell?,k8]
    have cl:W8.cell? ⟨w0.heap.size+1,0,none⟩=some (.int .i64 lo):=by simp [World.cell?,hM8.at_.low]
    have ch:W8.cell? ⟨w0.heap.size+2,0,none⟩=some (.int .i64 hi):=by simp [World.cell?,hM8.at_.high]
    have ce:W8.cell? ⟨ob+1,0,none⟩=some (.int .i64 (if (bagC (P++(LL.take k).filter (inRange lo hi))).isSome then 0 else 1)):=by simp [World.cell?,hM8.at_.err]
    go_upto_region 4 with (fail)
    rw [←hW8]
    clear hM ho hr hW8 hM8 ho8 hr8 htk hec h5 hy y0 y1 y2 y3 y4 y5 y6 k8 hix HR
    by_cases i1:lo≤y.key
    ·by_cases i2:y.key<hi
     ·have hin:inRange lo hi y=true:=by simp [inRange,i1,i2]
      rw [if_pos hin]at HTK
      have HG:=Lib.hid (show PGood (P++A) by have:=HPP.out;rw [HKL.out,←List.append_assoc]at this;exact this.left)
      have HG1:=Lib.hid (show PGood (P++(LL.take k).filter (inRange lo hi)) by
       have:=HG.out
       rw [←HAA.out,←List.take_append_drop k LL,List.filter_append,←List.append_assoc]at this
       exact this.left)
      have HYA:=Lib.hid (show y∈P++A by
       rw [←HAA.out];simp only [List.mem_append,List.mem_filter];right;exact⟨by rw [←HY.out];exact List.getElem_mem hlt2,hin⟩)
      cases hbg:bagC (P++(LL.take k).filter (inRange lo hi)) with
      |none=>
       rw [hbg]at ce
       have HN:=Lib.hid (show bagC (P++(LL.take (k+1)).filter (inRange lo hi))=bagC (P++(LL.take k).filter (inRange lo hi)) by
        rw [hbg,HTK.out,←List.append_assoc];exact bagC_none hbg)
       simp only [Option.isSome_none]at ce
       clear hbg hin
       go_wp2
       go_roundg (LL.length-(k+1))
       case measure=>omega
       case rel=>exact⟨k+1,by omega,rfl,by go_num,by have:=HALL.out;rw [←HN.out]at this;exact Lib.hid this⟩
      |some es=>
       rw [hbg]at ce
       have hM8:=HALL.out.1
       obtain⟨v,o1,o2,o3⟩:=hM8.at_.out
       have hov:=o3 es hbg
       obtain⟨g1,g2,g3,g4⟩:=pgood_some HG1.out hbg
       obtain⟨vs,vc,rfl⟩:=hov.isSlice
       have hob8:ob+2<W8.heap.size:=hM8.at_.size
       have HM:=Lib.hid (merged_any (B:=ob+3) hov (by omega) (by omega) g1 g2 (HG.out.1 y HYA.out).2 g3 (HG.out.2.1 y HYA.out))
       have HNB:=Lib.hid (show bagC (P++(LL.take (k+1)).filter (inRange lo hi))=insC es y by rw [HTK.out,←List.append_assoc,bagC_snoc,hbg];rfl)
       have HBE:=Lib.hid fun w6 (hT6:Turn (fun b=>(Value.slice vs es.length vc).ownBlock=some b) W8 w6)=>(by
        have h1:w6.heap[ob]?=_:=(hT6.block ob (by omega) (fun h=>by have:=(o2 _ h).1;omega)).trans o1
        have h2:w6.heap[ob+1]?=_:=(hT6.block (ob+1) (by omega) (fun h=>by have:=(o2 _ h).1;omega)).trans hM8.at_.err
        simp [World.frozen?,World.cell?,h1,h2]:w6.frozen? ⟨ob,0,none⟩=false∧w6.frozen? ⟨ob+1,0,none⟩=false∧w6.cell? ⟨ob,0,none⟩=some (.slice vs es.length vc)∧w6.cell? ⟨ob+1,0,none⟩=some (.int .i64 (if (bagC (P++(LL.take k).filter (inRange lo hi))).isSome then 0 else 1)))
       have HO1:=Lib.hid o1
       have co:W8.cell? ⟨ob,0,none⟩=some (.slice vs es.length vc):=by simp [World.cell?,o1]
       have HNX:=Lib.hid fun w6 st' v' (E:Int) (hT6:Turn (fun b=>(Value.slice vs es.length vc).ownBlock=some b) W8 w6) (hv':∀b,v'.ownBlock=some b→(Value.slice vs es.length vc).ownBlock=some b∨W8.heap.size≤b) (hE:E=if (st':Option (List Ent)).isSome then 0 else 1) (hl:∀b,v'.ownBlock=some b→b<w6.heap.size) (hO:∀es,st'=some es→OwnEnts (ob+3) w6 v' es) (hst:bagC (P++(LL.take (k+1)).filter (inRange lo hi))=st')=>(by
        obtain⟨q1,q2,-⟩:=AllAt.stored HALL.out.1.at_ HO1.out hT6 hv' hE hl hO
        rw [hst]
        exact⟨HALL.out.1.next q1 q2,HALL.out.1.list q2 hobw HALL.out.2.1 HALL.out.2.2⟩ :
        Mid w0 ob (.slice (some ⟨nb,noff,none⟩) t.nodes.length c) t.root lo hi w w.heap.size (some (.cells #[.bool x.leaf, .slice ae x.ents.length ne, .slice ak x.keys.length nk, .slice ad x.kids.length ndd, .slice ab x.buf.length nbb] 133)) ((w6.setCell ⟨ob,0,none⟩ v').setCell ⟨ob+1,0,none⟩ (.int .i64 E)) (bagC (P++(LL.take (k+1)).filter (inRange lo hi)))∧OwnEnts W1.heap.size ((w6.setCell ⟨ob,0,none⟩ v').setCell ⟨ob+1,0,none⟩ (.int .i64 E)) (.slice (some ⟨eb,eoff,none⟩) LL.length lc) LL∧∀b,OutRow ob ((w6.setCell ⟨ob,0,none⟩ v').setCell ⟨ob+1,0,none⟩ (.int .i64 E)) b→(Value.slice (some ⟨eb,eoff,none⟩) LL.length lc).ownBlock≠some b)
       clear hM8 o1 o2 o3 hov g1 g2 g3 g4 hbg hin
       simp only [Option.isSome_some,if_true]at ce
       cases hI:insC es y with
       |none=>
        rw [hI]at HM HNB
        clear hI
        go_wp2_with ((go_at_call 73;(with_reducible refine HM.out.mono ?_);rintro e w6 ⟨hT6,rfl,ho6⟩;obtain⟨f0,f1,f2,f3⟩:=HBE.out _ hT6;have hl6:=fun b hb=>(ho6.lt b hb).2))
        go_roundg (LL.length-(k+1))
        case measure=>omega
        case rel=>exact⟨k+1,by omega,rfl,by go_num,Lib.hid (HNX.out w6 none _ 1 hT6 (fun b hb=> .inl hb) rfl hl6 (fun _ h=>by cases h) HNB.out)⟩
       |some es'=>
        rw [hI]at HM HNB
        clear hI
        go_wp2_with ((go_at_call 73;(with_reducible refine HM.out.mono ?_);rintro e w6 ⟨hT6,v6,rfl,ho6,hv6⟩;obtain⟨f0,f1,f2,f3⟩:=HBE.out _ hT6;have hl6:=fun b hb=>(ho6.lt b hb).2;obtain⟨s6,c6,rfl⟩:=ho6.isSlice))
        go_roundg (LL.length-(k+1))
        case measure=>omega
        case rel=>exact⟨k+1,by omega,rfl,by go_num,Lib.hid (HNX.out w6 (some es') _ 0 hT6 hv6 rfl hl6 (fun _ h=>by cases h;exact ho6) HNB.out)⟩
     ·have HN:=Lib.hid (show bagC (P++(LL.take (k+1)).filter (inRange lo hi))=bagC (P++(LL.take k).filter (inRange lo hi)) by
       rw [HTK.out,if_neg (by simp [inRange];omega),List.append_nil])
      have i2':hi≤y.key:=by omega
      clear i2
      go_wp2
      go_roundg (LL.length-(k+1))
      case measure=>omega
      case rel=>exact⟨k+1,by omega,rfl,by go_num,by have:=HALL.out;rw [←HN.out]at this;exact Lib.hid this⟩
    ·have HN:=Lib.hid (show bagC (P++(LL.take (k+1)).filter (inRange lo hi))=bagC (P++(LL.take k).filter (inRange lo hi)) by
      rw [HTK.out,if_neg (by simp [inRange];omega),List.append_nil])
     have i1':y.key<lo:=by omega
     clear i1
     go_wp2
     go_roundg (LL.length-(k+1))
     case measure=>omega
     case rel=>exact⟨k+1,by omega,rfl,by go_num,by have:=HALL.out;rw [←HN.out]at this;exact Lib.hid this⟩
   ·obtain rfl:k=LL.length:=by omega
    rw [List.take_of_length_le (Nat.le_refl _),HAA.out]at hM
    obtain⟨hk4,hkk,hkv⟩:=vis_kidAt HV.out HXX.out
    have HM:=Lib.hid hM
    have HKV:=Lib.hid hkv
    have hkd:x.kids.length<1000:=by omega
    have HKEQ:=Lib.hid hkk
    have hx3:wr.cell? ⟨w.heap.size,3,none⟩=some (.slice ad x.kids.length ndd):=by simp [World.cell?,hM.node]
    have hPA:=Lib.hid (show PGood (P++(A++kidsL (fun k=>walkL t lo hi f k) x lo hi x.kids 0)) by have:=HPP.out;rw [HKL.out]at this;exact this)
    clear hM ho hr HR hkk hkv hk4 hobw HAA HLL
    go_wp2_with fail
    clear hx3
    go_loopg [53] x.kids.length (fun g i wr=>∃m:Nat,m≤x.kids.length∧g=x.kids.length-m∧i = .int .i64 m∧Hid (Mid w0 ob (.slice (some ⟨nb,noff,none⟩) t.nodes.length c) t.root lo hi w w.heap.size (some (.cells #[.bool x.leaf, .slice ae x.ents.length ne, .slice ak x.keys.length nk, .slice ad x.kids.length ndd, .slice ab x.buf.length nbb] 133)) wr (bagC (P++(A++kidsL (fun k=>walkL t lo hi f k) x lo hi (x.kids.take (m)) 0)))))
    case atStart=>exact⟨0,Nat.zero_le _,rfl,rfl,by have:=HM.out;exact Lib.hid (by simpa [kidsL] using this)⟩
    case round=>
     clear HM
     obtain⟨m,hm,rfl,rfl,HR⟩:=hrel
     have hM:=HR.out
     have hA:=hM.at_
     by_cases hlt2:m<x.kids.length
     ·obtain⟨K,hK⟩:∃K,x.kids[m]?=some K:=⟨x.kids[m],by simp [hlt2]⟩
      obtain⟨kb,koff,kcap,ke,hkb,hkc⟩:=IntsAt.get (HDD.out.below hA.below (Nat.le_refl _)) hK
      injection ke with ke1 _ ke3
      subst ke1 ke3
      have hkeq:x.keys.length+1=x.kids.length:=HKEQ.out (by rintro h;rw [h]at hlt2;simp at hlt2)
      have hix:=fun w'=>idx_int (ab:=kb) (aoff:=koff) (n:=x.kids.length) (cap:=ndd) (show (m:Int)=((m:Nat):Int) by rfl) hlt2 w'
      obtain⟨x2,x3⟩:wr.cell? ⟨w.heap.size,2,none⟩=some (.slice ak x.keys.length nk)∧wr.cell? ⟨w.heap.size,3,none⟩=some (.slice (some ⟨kb,koff,none⟩) x.kids.length ndd):=by simp [World.cell?,hM.node]
      have cl:wr.cell? ⟨w0.heap.size+1,0,none⟩=some (.int .i64 lo):=by simp [World.cell?,hA.low]
      have ch:wr.cell? ⟨w0.heap.size+2,0,none⟩=some (.int .i64 hi):=by simp [World.cell?,hA.high]
      have HKEY:=Lib.hid fun(i:Nat) (y:Int) (hy:x.keys[i]?=some y)=>IntsAt.get (HKK.out.below hA.below (Nat.le_refl _)) hy
      have HKP:=Lib.hid (kidsL_take (go:=fun k=>walkL t lo hi f k) (lo:=lo) (hi:=hi) hK)
      have HKR:=Lib.hid (kidsL_part (go:=fun k=>walkL t lo hi f k) (x:=x) (lo:=lo) (hi:=hi) (m+1))
      have HKV':=Lib.hid (HKV.out m K hK)
      obtain⟨kl,hkl⟩:∃kl,x.keys.length=kl:=⟨_,rfl⟩
      rw [hkl]at hkeq x2 HKEY
      have HKN:=Lib.hid hkl
      have hkeq2:m≤kl:=by omega
      have hkeq3:kl<1000:=by omega
      clear hM hA hK hkeq hkl
      go_upto_region 10 with (fail)
      go_cut [85] (fun c wx=>c = .bool (goesTo x lo hi m)∧Below wr.heap.size wr wx)
      case first=>
       clear hix hkc hkb x3
       by_cases m0:m=0
       ·have ez:((m:Int) == 0)=true:=by simp;omega
        by_cases ml:m=kl
        ·have HG:=Lib.hid (show goesTo x lo hi m=true from goesTo_yes (fun h=>absurd m0 h) (fun h=>absurd (ml.trans HKN.out.symm) h))
         have em:((m:Int) == (kl:Int))=true:=by simp;omega
         clear HKEY m0 ml
         go_quiet (fail)
         go_wp2
         go_meet
         exact⟨by rw [HG.out],belowAuto⟩
        ·obtain⟨T,hT⟩:∃T,x.keys[m]?=some T:=⟨x.keys[m]'(by rw [HKN.out];omega),by simp⟩
         obtain⟨b2,off2,cap2,e2,hb2,hc2⟩:=HKEY.out m T hT
         injection e2 with f1 _ f3
         subst f1 f3
         have hml:m<kl:=by omega
         have hix2:=fun w'=>idx_int (ab:=b2) (aoff:=off2) (n:=kl) (cap:=nk) (show (m:Int)=((m:Nat):Int) by rfl) hml w'
         have em:((m:Int) == (kl:Int))=false:=by simp;omega
         by_cases i2:lo<T
         ·have HG:=Lib.hid (show goesTo x lo hi m=true from goesTo_yes (fun h=>absurd m0 h) (fun _=>⟨T,hT,i2⟩))
          have et:decide (lo<T)=true:=by simp [i2]
          clear hT HKEY i2 m0 ml
          go_quiet (fail)
          go_wp2
          go_meet
          exact⟨by rw [HG.out],belowAuto⟩
         ·have HG:=Lib.hid (show goesTo x lo hi m=false from goesTo_no2 hT i2)
          have et:decide (lo<T)=false:=by simp;omega
          clear hT HKEY i2 m0 ml
          go_quiet (fail)
          go_wp2
          go_meet
          exact⟨by rw [HG.out],belowAuto⟩
       ·have ez:((m:Int) == 0)=false:=by simp;omega
        obtain⟨F,hF⟩:∃F,x.keys[m-1]?=some F:=⟨x.keys[m-1]'(by rw [HKN.out];omega),by simp⟩
        obtain⟨b1,off1,cap1,e1,hb1',hc1⟩:=HKEY.out (m-1) F hF
        injection e1 with f1 _ f3
        subst f1 f3
        have hw1:IntKind.i64.wrap ((m:Int)-1)=(m:Int)-1:=IntWalk.i64_in _ (by omega)
        have hix1:=fun w'=>idx_int (ab:=b1) (aoff:=off1) (n:=kl) (cap:=nk) (show (m:Int)-1=((m-1:Nat):Int) by omega) (by omega) w'
        by_cases i1:F<hi
        ·have ef:decide (F<hi)=true:=by simp [i1]
         by_cases ml:m=kl
         ·have HG:=Lib.hid (show goesTo x lo hi m=true from goesTo_yes (fun _=>⟨F,hF,i1⟩) (fun h=>absurd (ml.trans HKN.out.symm) h))
          have em:((m:Int) == (kl:Int))=true:=by simp;omega
          clear hF HKEY m0 ml i1
          go_quiet (fail)
          go_wp2
          go_meet
          exact⟨by rw [HG.out],belowAuto⟩
         ·obtain⟨T,hT⟩:∃T,x.keys[m]?=some T:=⟨x.keys[m]'(by rw [HKN.out];omega),by simp⟩
          obtain⟨b2,off2,cap2,e2,hb2,hc2⟩:=HKEY.out m T hT
          injection e2 with f1 _ f3
          injection f1 with f1
          injection f1 with f1 f2
          subst f1 f2 f3
          have hml:m<kl:=by omega
          have hix2:=fun w'=>idx_int (ab:=b1) (aoff:=off1) (n:=kl) (cap:=nk) (show (m:Int)=((m:Nat):Int) by rfl) hml w'
          have em:((m:Int) == (kl:Int))=false:=by simp;omega
          by_cases i2:lo<T
          ·have HG:=Lib.hid (show goesTo x lo hi m=true from goesTo_yes (fun _=>⟨F,hF,i1⟩) (fun _=>⟨T,hT,i2⟩))
           have et:decide (lo<T)=true:=by simp [i2]
           clear hT hF HKEY i1 i2 m0 ml
           go_quiet (fail)
           go_wp2
           go_meet
           exact⟨by rw [HG.out],belowAuto⟩
          ·have HG:=Lib.hid (show goesTo x lo hi m=false from goesTo_no2 hT i2)
           have et:decide (lo<T)=false:=by simp;omega
           clear hT hF HKEY i1 i2 m0 ml
           go_quiet (fail)
           go_wp2
           go_meet
           exact⟨by rw [HG.out],belowAuto⟩
        ·have HG:=Lib.hid (show goesTo x lo hi m=false from goesTo_no1 m0 hF i1)
         have ef:decide (F<hi)=false:=by simp;omega
         clear hF HKEY m0 i1
         go_quiet (fail)
         go_wp2
         go_meet
         exact⟨by rw [HG.out],belowAuto⟩
      case rest=>
       obtain⟨rfl,hbc⟩:=hcut
       have hM:=HR.out.later hbc (Nat.le_refl _)
       have HMC:=Lib.hid hM
       have cw:wc.cell? ⟨ob+2,0,none⟩=some (.func (.func 71) #[] #[.pointer (some ⟨w0.heap.size,0,none⟩), .pointer (some ⟨w0.heap.size+1,0,none⟩), .pointer (some ⟨w0.heap.size+2,0,none⟩), .pointer (some ⟨ob+1,0,none⟩), .pointer (some ⟨ob,0,none⟩), .pointer (some ⟨ob+2,0,none⟩)]):=by simp [World.cell?,hM.at_.walk]
       clear hM x2 x3 cl ch hix hkc hkb hbc
       cases hg:goesTo x lo hi m with
       |false=>
        have HKP':=Lib.hid (show kidsL (fun k=>walkL t lo hi f k) x lo hi (x.kids.take (m+1)) 0=kidsL (fun k=>walkL t lo hi f k) x lo hi (x.kids.take m) 0 by rw [HKP.out,if_neg (by simp [hg]),List.append_nil])
        clear hg
        go_wp2
        go_roundg (x.kids.length-(m+1))
        case measure=>omega
        case rel=>exact⟨m+1,by omega,rfl,by go_num,by have:=HMC.out;rw [←HKP'.out]at this;exact Lib.hid this⟩
       |true=>
        have HKP':=Lib.hid (show kidsL (fun k=>walkL t lo hi f k) x lo hi (x.kids.take (m+1)) 0=kidsL (fun k=>walkL t lo hi f k) x lo hi (x.kids.take m) 0++walkL t lo hi f K by rw [HKP.out,if_pos hg])
        have HPG:=Lib.hid (show PGood ((P++(A++kidsL (fun k=>walkL t lo hi f k) x lo hi (x.kids.take m) 0))++walkL t lo hi f K) by
         obtain⟨R,hR⟩:=HKR.out
         have:=hPA.out
         rw [hR,HKP'.out]at this
         simp only [←List.append_assoc]at this ⊢
         exact this.left)
        obtain⟨a',b',l',h',hvk⟩:=HKV'.out
        have HCALL:=Lib.hid (HIH.out K a' b' l' h' _ wc hvk HPG.out HMC.out.at_)
        have HNX:=Lib.hid fun w5 (ht5:AllTurn ob wc w5) (ha5:AllAt w0 ob (.slice (some ⟨nb,noff,none⟩) t.nodes.length c) t.root lo hi w5 (bagC ((P++(A++kidsL (fun k=>walkL t lo hi f k) x lo hi (x.kids.take m) 0))++walkL t lo hi f K)))=>(by
         have:=HMC.out.next ha5 ht5
         rw [List.append_assoc,List.append_assoc,←HKP'.out]at this
         exact this:Mid w0 ob (.slice (some ⟨nb,noff,none⟩) t.nodes.length c) t.root lo hi w w.heap.size (some (.cells #[.bool x.leaf, .slice ae x.ents.length ne, .slice ak x.keys.length nk, .slice (some ⟨kb,koff,none⟩) x.kids.length ndd, .slice ab x.buf.length nbb] 133)) w5 (bagC (P++(A++kidsL (fun k=>walkL t lo hi f k) x lo hi (x.kids.take (m+1)) 0))))
        clear hg hvk
        go_wp2_with ((go_at_call 71;(with_reducible refine HCALL.out.mono ?_);rintro e w5 ⟨rfl,ht5,ha5⟩))
        go_roundg (x.kids.length-(m+1))
        case measure=>omega
        case rel=>exact⟨m+1,by omega,rfl,by go_num,Lib.hid (HNX.out _ ht5 ha5)⟩
     ·obtain rfl:m=x.kids.length:=by omega
      rw [List.take_of_length_le (Nat.le_refl _),←HKL.out]at hM
      have HM:=Lib.hid hM
      clear hM hA HR
      go_wp2
      go_end0
      exact⟨rfl,HM.out.turn,HM.out.at_⟩
end Go.Proofs.YtnjfkcimboidnaaDoor

/- The walk of tree.All. -/
namespace Go.Proofs.YtnjfkcimboidnaaDoor
open Go.RowKit
theorem allWalk_any {t:Tr} {tv:Value} {w0:World} (hn:NodesAt w0 tv t.nodes) {ob:Nat} {lo hi:Int}:∀(f:Nat) (n a b:Int) (l:List Int) (h:Nat) (P:List Ent) (w:World),vis t f n a b=some (l,h)→PGood (P++walkL t lo hi f n)→AllAt w0 ob tv t.root lo hi w (bagC P) →
   Calls Tryd.prog 71 #[.int .i64 n, .pointer (some ⟨w0.heap.size,0,none⟩), .pointer (some ⟨w0.heap.size+1,0,none⟩), .pointer (some ⟨w0.heap.size+2,0,none⟩), .pointer (some ⟨ob+1,0,none⟩), .pointer (some ⟨ob,0,none⟩), .pointer (some ⟨ob+2,0,none⟩)] w fun e w'=>e = .returned (.tuple #[])∧AllTurn ob w w'∧AllAt w0 ob tv t.root lo hi w' (bagC (P++walkL t lo hi f n))
 |0,_,_,_,_,_,_,_,hv,_,_=>by cases hv
 |f+1,n,a,b,l,h,P,w,hv,hP,hA=>allWalk_step hn (fun n a b l h P w hv hP hA=>allWalk_any hn f n a b l h P w hv hP hA) hv hP hA
theorem walk_good {t:Tr} {lo hi:Int} (h1:t.nodes.length≤2000) (hv:ValidT t):PGood (walkL t lo hi 12 t.root):=by
 have hc:=valid_checked hv
 have hr:=valid_range hv
 have hl:=valid_len hv
 obtain⟨l,h,e,hn,hl2⟩:=hv
 have hp:=(walkL_perm (lo:=lo) (hi:=hi) _ _ _ _ _ _ e).1
 have hq:=(valid_perm e hn hl2).filter (inRange lo hi)
 have hpq:=hp.trans hq
 refine⟨fun e he=>hc e ((List.mem_filter.1 (hpq.mem_iff.1 he)).1),fun e he=>hr e ((List.mem_filter.1 (hpq.mem_iff.1 he)).1),?_⟩
 have h2:=hpq.length_eq
 have h3:=List.length_filter_le (inRange lo hi) t.all
 omega
theorem three_new (w:World) (o1 o2 o3:Obj):(((w.alloc o1).alloc o2).alloc o3).heap[w.heap.size]?=some o1∧(((w.alloc o1).alloc o2).alloc o3).heap[w.heap.size+1]?=some o2∧(((w.alloc o1).alloc o2).alloc o3).heap[w.heap.size+2]?=some o3:=by
 have a1:∀(w:World) (o:Obj),(w.alloc o).heap[w.heap.size]?=some o:=fun w o=>heap_new _ _ rfl
 have a2:∀(w:World) (o:Obj) (b:Nat),b<w.heap.size→(w.alloc o).heap[b]?=w.heap[b]?:=fun w o b h=>((Below.refl w.heap.size w).alloc (Nat.le_refl _) o).block b h
 have sz:∀(w:World) (o:Obj),(w.alloc o).heap.size=w.heap.size+1:=fun w o=>by simp
 refine⟨?_,?_,?_⟩
 ·rw [a2 _ _ _ (by rw [sz,sz];omega),a2 _ _ _ (by rw [sz];omega)];exact a1 _ _
 ·rw [a2 _ _ _ (by rw [sz,sz];omega)]
  have:=a1 (w.alloc o1) o2
  rw [sz]at this;exact this
 ·have:=a1 ((w.alloc o1).alloc o2) o3
  rw [sz,sz]at this;exact this
set_option maxRecDepth 100000 in
set_option maxHeartbeats 1000000 in
theorem all_any {v:Value} {t:Tr} {lo hi:Int} {w:World} (h:TreeAt w v t) :
  Calls Tryd.prog 45 #[v, .int .i64 lo, .int .i64 hi] w (AllPost w.heap.size w (treeFault t) (allR t lo hi)):=by
 obtain⟨nv,rfl,hn⟩:=h
 obtain⟨⟨ao,cap,rfl⟩,hlen⟩:=hn.len
 obtain⟨W0,hW0⟩:∃W0,W0=((w.alloc (.cells #[.slice ao t.nodes.length cap, .int .i64 t.root] 32)).alloc (.cells #[.int .i64 lo] 3)).alloc (.cells #[.int .i64 hi] 3):=⟨_,rfl⟩
 have hb0:Below w.heap.size w W0:=by rw [hW0];exact belowAuto
 have hz0:W0.heap.size=w.heap.size+3:=by rw [hW0];simp
 have hmf:∀(fn:Fn) (first cap:Array Value) (w:World),(Instr.makeFunc fn first cap).run Tryd.prog w = .ok (.func fn first cap) w:=fun _ _ _ _=>rfl
 have HK:=Lib.hid (by rw [hW0];exact three_new _ _ _ _ :
  W0.heap[w.heap.size]?=some (.cells #[.slice ao t.nodes.length cap, .int .i64 t.root] 32)∧W0.heap[w.heap.size+1]?=some (.cells #[.int .i64 lo] 3)∧W0.heap[w.heap.size+2]?=some (.cells #[.int .i64 hi] 3))
 have HCK:=Lib.hid (treeCheck_any (t:=t) (w:=W0) (v:= .agg #[.slice ao t.nodes.length cap, .int .i64 t.root]) ⟨_,rfl,hn.below hb0 (Nat.le_refl _)⟩)
 have HN:=Lib.hid hn
 obtain⟨c0,c1⟩:W0.cell? ⟨w.heap.size,0,none⟩=some (.slice ao t.nodes.length cap)∧W0.cell? ⟨w.heap.size,1,none⟩=some (.int .i64 t.root):=by simp [World.cell?,HK.out.1]
 clear hn
 go_enter Tryd.func45,Tryd.ntmps45
 go_upto_region 1 with (fail)
 rw [←hW0]
 clear hW0
 by_cases hf:treeFault t=0
 ·rw [hf]at HCK
  have HV:=Lib.hid (treeFault_ok hf)
  have HF0:=Lib.hid hf
  go_upto_region 4 with ((go_at_call 70;(with_reducible refine HCK.out.mono ?_);rintro e w1 ⟨rfl,hb1⟩))
  have hz1:w.heap.size+3≤w1.heap.size:=by have:=hb1.size;omega
  obtain⟨W9,hW9⟩:∃W9,W9=((w1.alloc (.cells #[.slice none 0 0] 94)).alloc (.cells #[.int .i64 0] 36)).alloc (.cells #[(.func (.func 71) #[] #[.pointer (some ⟨w.heap.size,0,none⟩), .pointer (some ⟨w.heap.size+1,0,none⟩), .pointer (some ⟨w.heap.size+2,0,none⟩), .pointer (some ⟨w1.heap.size+1,0,none⟩), .pointer (some ⟨w1.heap.size,0,none⟩), .pointer (some ⟨w1.heap.size+2,0,none⟩)])] 131):=⟨_,rfl⟩
  have hb9:Below w1.heap.size w1 W9:=by rw [hW9];exact belowAuto
  have hz9:W9.heap.size=w1.heap.size+3:=by rw [hW9];simp
  obtain⟨n1,n2,n3⟩:=(by rw [hW9];exact three_new _ _ _ _ :
   W9.heap[w1.heap.size]?=some (.cells #[.slice none 0 0] 94)∧W9.heap[w1.heap.size+1]?=some (.cells #[.int .i64 0] 36)∧W9.heap[w1.heap.size+2]?=some (.cells #[(.func (.func 71) #[] #[.pointer (some ⟨w.heap.size,0,none⟩), .pointer (some ⟨w.heap.size+1,0,none⟩), .pointer (some ⟨w.heap.size+2,0,none⟩), .pointer (some ⟨w1.heap.size+1,0,none⟩), .pointer (some ⟨w1.heap.size,0,none⟩), .pointer (some ⟨w1.heap.size+2,0,none⟩)])] 131))
  have hb01:Below W0.heap.size W0 W9:=Below.trans' hb1 hb9 hb1.size
  have m0:W9.heap[w.heap.size]?=_:=(hb01.block _ (by omega)).trans HK.out.1
  have HA:=Lib.hid (show AllAt w w1.heap.size (.slice ao t.nodes.length cap) t.root lo hi W9 (bagC []) from
   ⟨Below.trans' hb0 hb01 hb0.size,by omega,by omega,m0,(hb01.block _ (by omega)).trans HK.out.2.1,(hb01.block _ (by omega)).trans HK.out.2.2,n2,n3,_,n1,fun b h=>by simp [Value.ownBlock]at h,fun es h=>by
    have:es=[]:=by simpa [bagC] using h.symm
    subst this;exact OwnEnts.nil _ _⟩)
  have hvt:=HV.out.2
  obtain⟨l,h,hvis,-,-⟩:=hvt
  have HCALL:=Lib.hid (allWalk_any HN.out (ob:=w1.heap.size) (lo:=lo) (hi:=hi) 12 t.root _ _ _ _ [] W9 hvis (by rw [List.nil_append];exact walk_good HV.out.1 HV.out.2) HA.out)
  rw [List.nil_append,all_eq HV.out.2]at HCALL
  have d1:W9.cell? ⟨w.heap.size,1,none⟩=some (.int .i64 t.root):=by simp [World.cell?,m0]
  have d2:W9.cell? ⟨w1.heap.size+2,0,none⟩=some (.func (.func 71) #[] #[.pointer (some ⟨w.heap.size,0,none⟩), .pointer (some ⟨w.heap.size+1,0,none⟩), .pointer (some ⟨w.heap.size+2,0,none⟩), .pointer (some ⟨w1.heap.size+1,0,none⟩), .pointer (some ⟨w1.heap.size,0,none⟩), .pointer (some ⟨w1.heap.size+2,0,none⟩)]):=by simp [World.cell?,n3]
  have HFZ:=Lib.hid fun w5 st (ha:AllAt w w1.heap.size (.slice ao t.nodes.length cap) t.root lo hi w5 st)=>(by
   obtain⟨v,o1,o2,o3⟩:=ha.out
   exact⟨v,by simp [World.cell?,o1],by simp [World.cell?,ha.err],ha.below,o3⟩ :
   ∃v,w5.cell? ⟨w1.heap.size,0,none⟩=some v∧w5.cell? ⟨w1.heap.size+1,0,none⟩=some (.int .i64 (if st.isSome then 0 else 1))∧Below w.heap.size w w5∧∀es,st=some es→OwnEnts (w1.heap.size+3) w5 v es)
  go_upto_region 8 with (fail)
  rw [show w.heap.size+1+1=w.heap.size+2 from rfl,show w1.heap.size+1+1=w1.heap.size+2 from rfl,←hW9]
  clear hW9 n1 n2 n3 m0 hb01 hb9 c0 c1 hvis HA hf
  cases hr:allR t lo hi with
  |none=>
   rw [hr]at HCALL
   have HR:=Lib.hid hr
   clear hr
   go_upto_region 10 with ((go_at_call 71;(with_reducible refine HCALL.out.mono ?_);rintro e w5 ⟨rfl,-,ha5⟩;obtain⟨v5,e0,e1,hb5,-⟩:=HFZ.out _ _ ha5;simp only [Option.isSome_none]at e1))
   go_quiet (fail)
   go_wp2
   exact bodyPost_ret (v:= .tuple #[.slice none 0 0, .int .i64 1]) (by simp [results,Tryd.results45,go_sem, *]) rfl ⟨belowAuto,fun h=>absurd HF0.out h,fun _=>by rw [HR.out]⟩
  |some es=>
   rw [hr]at HCALL
   have HR:=Lib.hid hr
   clear hr
   go_wp2_with ((go_at_call 71;(with_reducible refine HCALL.out.mono ?_);rintro e w5 ⟨rfl,-,ha5⟩;obtain⟨v5,e0,e1,hb5,ho5⟩:=HFZ.out _ _ ha5;simp only [Option.isSome_some,if_true]at e1;have ho6:=(ho5 es rfl).mono (show w.heap.size≤w1.heap.size+3 by omega);obtain⟨s5,c5,rfl⟩:=ho6.isSlice))
   exact bodyPost_ret (v:= .tuple #[.slice s5 es.length c5, .int .i64 0]) (by simp [results,Tryd.results45,go_sem, *]) rfl ⟨belowAuto,fun h=>absurd HF0.out h,fun _=>by rw [HR.out];exact⟨_,rfl,(by repeat (first|assumption|with_reducible refine OwnEnts.alloc ?_ _|with_reducible refine OwnEnts.drewN ?_ _|with_reducible refine OwnEnts.drew ?_))⟩⟩
 ·have d2:(treeFault t != 0)=true:=by simp [hf]
  obtain⟨F,hF⟩:∃F,treeFault t=F:=⟨_,rfl⟩
  have HF1:=Lib.hid hF
  have HF2:=Lib.hid hf
  rw [hF]at HCK d2
  clear hF hf
  go_wp2_with ((go_at_call 70;(with_reducible refine HCK.out.mono ?_);rintro e w1 ⟨rfl,hb1⟩;have hbw:=Below.trans' hb0 hb1 hb0.size))
  exact bodyPost_ret (v:= .tuple #[.slice none 0 0, .int .i64 F]) (by simp [results,Tryd.results45,go_sem, *]) rfl ⟨belowAuto,fun _=>by rw [HF1.out],fun h=>absurd h HF2.out⟩
end Go.Proofs.YtnjfkcimboidnaaDoor
