/- Texts of mine that come as one: NodeA NodeB NodeC Check. -/
import Derived.Test.YtnjfkcimboidnaaDoorPA
import Derived.Test.YtnjfkcimboidnaaDoorSR
import Derived.Test.YtnjfkcimboidnaaDoorSX
import Derived.Deep.CutBlock
import Derived.Test.YtnjfkcimboidnaaDoorSO
import Derived.Carry
import Derived.Deep.RegionHeld3
/- The walk of the program's walker: a node that is not there, was seen, or lies too deep. -/
namespace Go.Proofs.YtnjfkcimboidnaaDoor
open Go.RowKit
structure WalkerAt (w:World) (pb mb:Nat) (nv:Value) (root:Int) (S:List Int) (D:Int):Prop where
 lt:pb<w.heap.size
 ne:pb≠mb
 c0:w.cell? ⟨pb,0,none⟩=some nv
 c1:w.cell? ⟨pb,1,none⟩=some (.int .i64 root)
 c2:w.cell? ⟨pb,2,none⟩=some (.map (some mb))
 c3:w.cell? ⟨pb,3,none⟩=some (.int .i64 D)
 fr:∀o,w.frozen? ⟨pb,o,none⟩=false
 set:SetAt w mb S
def Own2 (pb mb:Nat) (b:Nat):Prop:=b=pb∨b=mb
theorem WalkerAt.turn {w w':World} {pb mb:Nat} {nv:Value} {root:Int} {S:List Int} {D:Int} (h:WalkerAt w pb mb nv root S D) {X:Nat→Prop} (ht:Turn X w w') (hp:¬X pb) (hm:¬X mb):WalkerAt w' pb mb nv root S D:=
 ⟨Nat.lt_of_lt_of_le h.lt ht.size,h.ne,(ht.cell h.lt hp 0).trans h.c0,(ht.cell h.lt hp 1).trans h.c1,(ht.cell h.lt hp 2).trans h.c2,(ht.cell h.lt hp 3).trans h.c3,fun o=>(ht.frozen h.lt hp o).trans (h.fr o),h.set.turn ht hm⟩
def NodePost (pb mb:Nat) (nv:Value) (root:Int) (r:Option (List Int×Int)) (w:World) (e:Ending) (w':World):Prop:=
 Turn (Own2 pb mb) w w'∧(match r with|none=>e = .returned (.bool false)|some (S',D')=>e = .returned (.bool true)∧WalkerAt w' pb mb nv root S' D')
theorem npost_none {pb mb:Nat} {nv:Value} {root:Int} {w w':World} {e:Ending} (ht:Turn (Own2 pb mb) w w') (he:e = .returned (.bool false)):NodePost pb mb nv root none w e w':=⟨ht,he⟩
theorem npost_some {pb mb:Nat} {nv:Value} {root:Int} {w w':World} {e:Ending} {S:List Int} {D:Int} (ht:Turn (Own2 pb mb) w w') (he:e = .returned (.bool true)) (hw:WalkerAt w' pb mb nv root S D):NodePost pb mb nv root (some (S,D)) w e w':=⟨ht,he,hw⟩
set_option maxRecDepth 100000 in
set_option maxHeartbeats 1000000 in
theorem node_bad {t:Tr} {nv:Value} {w0:World} (h0:NodesAt w0 nv t.nodes) {f:Nat} {n lo hi d:Int} {S:List Int} {D:Int} {w:World} {pb mb:Nat} (hw:WalkerAt w pb mb nv t.root S D) (hd:d=13-f) (hf:f≤12) (hbad:f=0∨t.at? n=none∨n∈S) :
  Calls Tryd.prog 85 #[.pointer (some ⟨pb,0,none⟩), .int .i64 n, .int .i64 lo, .int .i64 hi, .int .i64 d] w (NodePost pb mb nv t.root (nodeS t f n lo hi (S,D)) w):=by
 have hr:nodeS t f n lo hi (S,D)=none:=by
  cases f with
  |zero=>rfl
  |succ f=>
   rcases hbad with h|h|h
   ·cases h
   ·exact nodeS_none h
   ·cases hx:t.at? n with
    |none=>exact nodeS_none hx
    |some x=>exact nodeS_seen hx h
 rw [hr]
 obtain⟨⟨ao,c,rfl⟩,hlen⟩:=h0.len
 obtain⟨lt,ne,c0,c1,c2,c3,fr,hset⟩:=hw
 by_cases hin:t.at? n=none
 ·have hn:=at?_none hin
  clear hr hbad hd hin h0 fr hset
  by_cases hn0:n<0
  ·clear hn
   go_enter Tryd.func85,Tryd.ntmps85
   go_wp2
   go_ret
   exact npost_none (Turn.refl _ _) rfl
  ·have hn1:(t.nodes.length:Int)≤n:=by omega
   clear hn
   go_enter Tryd.func85,Tryd.ntmps85
   go_wp2
   go_ret
   exact npost_none (Turn.refl _ _) rfl
 ·obtain⟨x,hx⟩:=Option.ne_none_iff_exists'.1 hin
  obtain⟨hn0,hn1,-⟩:=at?_get hx
  have hn2:n<(t.nodes.length:Int):=by omega
  have hlook:=hset.look (n:=n) (by unfold i64;omega)
  by_cases hs:n∈S
  ·have hs':decide (n∈S)=true:=by simp [hs]
   rw [hs']at hlook
   clear hr hbad hd hin h0 fr hset hs hs' hx
   go_enter Tryd.func85,Tryd.ntmps85
   go_wp2
   go_ret
   exact npost_none (Turn.refl _ _) rfl
  ·obtain rfl:f=0:=by rcases hbad with h|h|h;exact h;exact absurd h hin;exact absurd h hs
   have hs':decide (n∈S)=false:=by simp [hs]
   rw [hs']at hlook
   have d2:(12:Int)<d:=by omega
   clear hr hbad hd hin h0 fr hset hs hs' hx
   go_enter Tryd.func85,Tryd.ntmps85
   go_wp2
   go_ret
   exact npost_none (Turn.refl _ _) rfl
end Go.Proofs.YtnjfkcimboidnaaDoor

/- The walk of the program's walker: a node that is a leaf. -/
namespace Go.Proofs.YtnjfkcimboidnaaDoor
open Go.RowKit Go.Maps
theorem SetAt.put {w1:World} {mb k:Nat} {S:List Int} {n:Int} (h:w1.ownsMap (H:=Unit) Tryd.prog 3 (plainElem Tryd.prog 4) mb k ((setB S).put (.int .i64 n) (.lit (.bool true)))) (hk:k=S.length+1):SetAt w1 mb (n::S):=by
 subst hk;exact h
theorem WalkerAt.setD {w:World} {pb mb:Nat} {nv:Value} {root:Int} {S:List Int} {D:Int} (h:WalkerAt w pb mb nv root S D) (d:Int):WalkerAt (w.setCell ⟨pb,3,none⟩ (.int .i64 d)) pb mb nv root S d:=by
 have ht:Turn (·=pb) w (w.setCell ⟨pb,3,none⟩ (.int .i64 d)):=Turn.setCell (X:=(·=pb)) (Turn.refl _ _) (.inl rfl) _
 refine⟨by rw [heap_setCell_size];exact h.lt,h.ne,?_,?_,?_,?_,fun o=>?_,h.set.turn ht h.ne.symm⟩
 ·rw [World.cell?_setCell_other _ _ _ _ (by simp)];exact h.c0
 ·rw [World.cell?_setCell_other _ _ _ _ (by simp)];exact h.c1
 ·rw [World.cell?_setCell_other _ _ _ _ (by simp)];exact h.c2
 ·exact World.cell?_setCell_same' _ _ _ (by rw [h.c3];rfl)
 ·rw [←h.fr o];simp [World.frozen?,World.setCell,Array.getElem?_modify]
  cases w.heap[pb]? with
  |none=>rfl
  |some o=>cases o <;> rfl
set_option maxRecDepth 100000 in
set_option maxHeartbeats 2000000 in
theorem node_leaf {t:Tr} {nv:Value} {w0:World} (h0:NodesAt w0 nv t.nodes) {f:Nat} {n lo hi d:Int} {S:List Int} {D:Int} {w:World} {pb mb:Nat} {x:Nd} (hb0:Below w0.heap.size w0 w) (hpb:w0.heap.size≤pb) (hmb:w0.heap.size≤mb) (hw:WalkerAt w pb mb nv t.root S D) (hS:SOk t S) (hd0:d=12-f) (hf:f≤11) (hx:t.at? n=some x) (hnS:n∉S) (hleaf:x.leaf=true) :
  Calls Tryd.prog 85 #[.pointer (some ⟨pb,0,none⟩), .int .i64 n, .int .i64 lo, .int .i64 hi, .int .i64 d] w (NodePost pb mb nv t.root (nodeS t (f+1) n lo hi (S,D)) w):=by
 have hyes:(D=0∨D=d)∧LeafOk t n x lo hi→nodeS t (f+1) n lo hi (S,D)=some (n::S,d):=fun h=>by rw [nodeS_leaf hx hnS hleaf (by rw [←hd0];exact h.1) h.2,hd0]
 have hno:¬((D=0∨D=d)∧LeafOk t n x lo hi)→nodeS t (f+1) n lo hi (S,D)=none:=fun h=>nodeS_noleaf hx hleaf (by rw [←hd0];exact h)
 obtain⟨hn0,hn1,hn2⟩:=at?_get hx
 obtain⟨j,hj⟩:∃j:Nat,n=j:=⟨n.toNat,by omega⟩
 subst hj
 rw [Int.toNat_natCast]at hn1 hn2
 have hd1:1≤d:=by omega
 have hd2:d≤12:=by omega
 obtain⟨nb,noff,c,ev,kv,dv,bv,rfl,hnb,hE,hK,hD,hB,c0,c1,c2,c3,c4⟩:=node_later h0 hb0 hn2
 have hlen:=h0.len.2
 obtain⟨ae,ne,rfl⟩:=hE.isSlice
 obtain⟨ak,nk,rfl⟩:=hK.isSlice
 obtain⟨ad,ndd,rfl⟩:=hD.isSlice
 obtain⟨ab,nbb,rfl⟩:=hB.isSlice
 obtain⟨plt,pne,p0,p1,p2,p3,pfr,hset⟩:=hw
 have hbz:=hb0.size
 have l1:=hE.len (by decide)
 have l2:=hK.len (by decide)
 have l3:=hD.len (by decide)
 have l4:=hB.len (by decide)
 have hSl:=hS.le
 rw [hleaf]at c0
 have hmlt:=hset.lt
 have hnm:nb≠mb:=by omega
 have hnp:nb≠pb:=by omega
 have hlook:=hset.look (n:=(j:Int)) (by unfold i64;omega)
 rw [show decide ((j:Int)∈S)=false by simp [hnS]]at hlook
 have hkey:keyOf Tryd.prog 3 (.int .i64 (j:Int))=some (.int .i64 (j:Int)):=keyOf_int_mk Tryd.underlying3 (wf_i64 (by unfold i64;omega))
 have HE:=Lib.hid fun w' (hb:Below w0.heap.size w0 w')=>rising_any (lo:=lo) (hi:=hi) (hE.below hb (Nat.le_refl _))
 have HIFF:=Lib.hid (leafOk_iff (t:=t) (n:=(j:Int)) (x:=x) (lo:=lo) (hi:=hi))
 have HNIL:=Lib.hid fun(h:x.ents.length=0)=>(show entsB x.ents lo hi=true by rw [List.eq_nil_of_length_eq_zero h];exact entsB_true.2 (entsOk_nil lo hi))
 have HYES:=Lib.hid hyes
 have HNO:=Lib.hid hno
 clear h0 hE hK hD hB hx hn0 hnS hyes hno hleaf hd0 hS
 generalize x.ents.length=le at *
 generalize x.keys.length=lk at *
 generalize x.kids.length=ld at *
 generalize x.buf.length=lb at *
 generalize entsB x.ents lo hi=be at *
 go_enter Tryd.func85,Tryd.ntmps85
 go_upto_region 4 with (first|(at_mapUpdate;refine wpList_mapUpdate_own _ rfl _ _ _ 154 rfl 3 4 Tryd.keyedInt Tryd.underlying154 _ mb S.length (setB S) rfl hset (by unfold maxLen;omega) _ _ (.int .i64 (j:Int)) rfl rfl hkey (.lit (.bool true)) [] (plainElem_bool Tryd.underlying4 true) ?_;intro w1 hown1 hgrow1))
 have ht1:Turn (Own2 pb mb) w w1:=(Turn.refl _ _).grown hgrow1 (fun k hk=>by cases hk;exact .inl (.inr rfl))
 have hset1:SetAt w1 mb ((j:Int)::S):=SetAt.put hown1 rfl
 have gz:w.heap.size≤w1.heap.size:=hgrow1.size
 have gc:∀b,b≠mb→b<w.heap.size→∀o,w1.cell? ⟨b,o,none⟩=w.cell? ⟨b,o,none⟩:=fun b h1 h2 o=>World.cell?_of_block (hgrow1.block b h2 (fun e=>h1 (Option.some.inj e.symm).symm))
 have gf:∀b,b≠mb→b<w.heap.size→∀o,w1.frozen? ⟨b,o,none⟩=w.frozen? ⟨b,o,none⟩:=fun b h1 h2 o=>World.frozen?_of_block (hgrow1.block b h2 (fun e=>h1 (Option.some.inj e.symm).symm))
 have hnbw:nb<w.heap.size:=by omega
 have p0:=(gc pb pne plt 0).trans p0
 have p1:=(gc pb pne plt 1).trans p1
 have p2:=(gc pb pne plt 2).trans p2
 have p3:=(gc pb pne plt 3).trans p3
 have pfr:=fun o=>(gf pb pne plt o).trans (pfr o)
 have c0:=(gc nb hnm hnbw _).trans c0
 have c1:=(gc nb hnm hnbw _).trans c1
 have c2:=(gc nb hnm hnbw _).trans c2
 have c3:=(gc nb hnm hnbw _).trans c3
 have c4:=(gc nb hnm hnbw _).trans c4
 have plt1:pb<w1.heap.size:=by omega
 clear gc gf hgrow1 hown1 hlook hset hkey
 have hb1:Below w0.heap.size w0 w1:=ht1.below hb0 hbz (fun i hi=>by rcases hi with rfl|rfl <;> omega)
 go_upto_region 5 with (fail)
 obtain⟨W2,hW2⟩:∃W2,W2=w1.alloc (.cells #[.bool true, .slice ae le ne, .slice ak lk nk, .slice ad ld ndd, .slice ab lb nbb] 133):=⟨_,rfl⟩
 have hn2:Turn (fun _=>False) w1 W2:=by rw [hW2];exact(Turn.refl _ _).alloc _
 have k1:W2.heap[w1.heap.size]?=some (.cells #[.bool true, .slice ae le ne, .slice ak lk nk, .slice ad ld ndd, .slice ab lb nbb] 133):=by
  rw [hW2];exact heap_new _ _ rfl
 have hw2:WalkerAt W2 pb mb (.slice (some ⟨nb,noff,none⟩) t.nodes.length c) t.root ((j:Int)::S) D:=
  (⟨plt1,pne,p0,p1,p2,p3,pfr,hset1⟩:WalkerAt w1 pb mb _ t.root ((j:Int)::S) D).turn hn2 (fun h=>h) (fun h=>h)
 have ht2:Turn (Own2 pb mb) w W2:=ht1.trans (hn2.mono (fun _ _ h=>h.elim))
 have hb2:Below w0.heap.size w0 W2:=ht2.below hb0 hbz (fun i hi=>by rcases hi with rfl|rfl <;> omega)
 have hz1:w1.heap.size<W2.heap.size:=(Array.getElem?_eq_some_iff.1 k1).1
 rw [←hW2]
 clear hW2 hn2 p0 p1 p2 p3 pfr c0 c1 c2 c3 c4 hset1 hb1 hb0
 obtain⟨D3,hD3⟩:∃D3,D3=(if D=0 then d else D):=⟨_,rfl⟩
 obtain⟨x0,x1,x2,x3,x4⟩:W2.cell? ⟨w1.heap.size,0,none⟩=some (.bool true)∧W2.cell? ⟨w1.heap.size,1,none⟩=some (.slice ae le ne)∧W2.cell? ⟨w1.heap.size,2,none⟩=some (.slice ak lk nk)∧W2.cell? ⟨w1.heap.size,3,none⟩=some (.slice ad ld ndd)∧W2.cell? ⟨w1.heap.size,4,none⟩=some (.slice ab lb nbb):=by
  simp [World.cell?,k1]
 have q3:=hw2.c3
 have qlt:=hw2.lt
 have qfr:=hw2.fr
 have HW:=Lib.hid hw2
 clear hw2
 go_upto_if 59 with (fail)
 go_cut [] (fun wx=>Turn (Own2 pb mb) W2 wx∧(∀o,wx.cell? ⟨w1.heap.size,o,none⟩=W2.cell? ⟨w1.heap.size,o,none⟩)∧Hid (WalkerAt wx pb mb (.slice (some ⟨nb,noff,none⟩) t.nodes.length c) t.root ((j:Int)::S) D3))
 case first=>
  by_cases g0:D=0
  ·subst g0
   rw [if_pos rfl]at hD3
   subst hD3
   go_wp2
   go_meet
   exact⟨(Turn.refl _ _).setCell (.inl (.inl rfl)) _,fun o=>World.cell?_setCell_other _ _ _ _ (by simp),Lib.hid (HW.out.setD _)⟩
  ·rw [if_neg g0]at hD3
   subst hD3
   go_wp2
   go_meet
   exact⟨Turn.refl _ _,fun o=>rfl,HW⟩
 case rest=>
  obtain⟨ht3,hsame,HW3⟩:=hcut
  have y1:=(hsame 1).trans x1
  have y2:=(hsame 2).trans x2
  have y3:=(hsame 3).trans x3
  have y4:=(hsame 4).trans x4
  have z1:=HW3.out.c1
  have z3:=HW3.out.c3
  have hb3:Below w0.heap.size w0 wc:=ht3.below hb2 hb2.size (fun i hi=>by rcases hi with rfl|rfl <;> omega)
  have HT3:=Lib.hid (ht2.trans ht3)
  have HEW:=Lib.hid (HE.out wc hb3)
  have HD3:=Lib.hid hD3
  clear x0 x1 x2 x3 x4 k1 hb2 hb3 ht2 ht3 hsame HE hD3 q3 qlt qfr p0 p1 p2 p3 pfr c0 c1 c2 c3 c4 hnp hpb hmb
  by_cases g0:D3=d
  ·have hd:D=0∨D=d:=by
    have:=HD3.out
    by_cases h:D=0
    ·exact .inl h
    ·rw [if_neg h]at this;right;omega
   subst g0
   have e0:(D3 == D3)=true:=by simp
   by_cases g1:lk+ld+lb=0
   ·obtain⟨rfl,rfl,rfl⟩:lk=0∧ld=0∧lb=0:=by omega
    by_cases g2:le≤6
    ·by_cases g3:le=0
     ·subst g3
      have hbe:be=true:=HNIL.out rfl
      subst hbe
      by_cases g4:(j:Int)=t.root
      ·have HR:=Lib.hid (HYES.out ⟨hd,HIFF.out.2 ⟨by omega,by omega,fun _=>g4,rfl⟩⟩)
       have dr:((j:Int) == t.root)=true:=by simp [g4]
       clear g1 g2 g4 hd
       go_wp2_with ((go_at_call 98;(with_reducible refine HEW.out.mono ?_);rintro e' w4 ⟨rfl,BE⟩))
       go_ret
       rw [HR.out]
       exact npost_some (HT3.out.trans (Turn.of BE (Nat.le_refl _))) rfl (HW3.out.turn (X:=fun _=>False) (Turn.of BE (Nat.le_refl _)) (fun h=>h) (fun h=>h))
      ·have HR:=Lib.hid (HNO.out (fun h=>g4 ((HIFF.out.1 h.2).2.2.1 rfl)))
       have dr:((j:Int) == t.root)=false:=by simp [g4]
       clear g1 g2 g4 hd
       go_wp2
       go_ret
       rw [HR.out]
       exact npost_none HT3.out rfl
     ·have g3':0<le:=by omega
      cases be with
      |true=>
       have HR:=Lib.hid (HYES.out ⟨hd,HIFF.out.2 ⟨by omega,by omega,fun h=>absurd h g3,rfl⟩⟩)
       clear g1 hd
       go_wp2_with ((go_at_call 98;(with_reducible refine HEW.out.mono ?_);rintro e' w4 ⟨rfl,BE⟩))
       go_ret
       rw [HR.out]
       exact npost_some (HT3.out.trans (Turn.of BE (Nat.le_refl _))) rfl (HW3.out.turn (X:=fun _=>False) (Turn.of BE (Nat.le_refl _)) (fun h=>h) (fun h=>h))
      |false=>
       have HR:=Lib.hid (HNO.out (fun h=>by have:=(HIFF.out.1 h.2).2.2.2;cases this))
       clear g1 hd
       go_wp2_with ((go_at_call 98;(with_reducible refine HEW.out.mono ?_);rintro e' w4 ⟨rfl,BE⟩))
       go_ret
       rw [HR.out]
       exact npost_none (HT3.out.trans (Turn.of BE (Nat.le_refl _))) rfl
    ·have HR:=Lib.hid (HNO.out (fun h=>g2 (HIFF.out.1 h.2).2.1))
     have g2':6<le:=by omega
     clear g1 g2 hd
     go_wp2
     go_ret
     rw [HR.out]
     exact npost_none HT3.out rfl
   ·have HR:=Lib.hid (HNO.out (fun h=>g1 (HIFF.out.1 h.2).1))
    by_cases g5:lk=0
    ·by_cases g6:ld=0
     ·have g7:0<lb:=by omega
      clear g1 hd
      go_wp2
      go_ret
      rw [HR.out]
      exact npost_none HT3.out rfl
     ·have g7:0<ld:=by omega
      clear g1 hd
      go_wp2
      go_ret
      rw [HR.out]
      exact npost_none HT3.out rfl
    ·have g7:0<lk:=by omega
     clear g1 hd
     go_wp2
     go_ret
     rw [HR.out]
     exact npost_none HT3.out rfl
  ·have HR:=Lib.hid (HNO.out (fun h=>by
    have:=HD3.out
    rcases h.1 with h0|h0
    ·rw [if_pos h0]at this;exact g0 this
    ·by_cases h1:D=0
     ·rw [if_pos h1]at this;exact g0 this
     ·rw [if_neg h1]at this;exact g0 (this.trans h0)))
   have e0:(D3 == d)=false:=by simp [g0]
   go_wp2
   go_ret
   rw [HR.out]
   exact npost_none HT3.out rfl
end Go.Proofs.YtnjfkcimboidnaaDoor

/- The walk of the program's walker: a node that has kids; any node. -/
namespace Go.Proofs.YtnjfkcimboidnaaDoor
open Go.RowKit Go.Maps
set_option maxRecDepth 100000 in
set_option maxHeartbeats 2000000 in
theorem node_inner {t:Tr} {nv:Value} {w0:World} (h0:NodesAt w0 nv t.nodes) {f:Nat} {n lo hi d:Int} {S:List Int} {D:Int} {w:World} {pb mb:Nat} {x:Nd} (hb0:Below w0.heap.size w0 w) (hpb:w0.heap.size≤pb) (hmb:w0.heap.size≤mb) (hw:WalkerAt w pb mb nv t.root S D) (hS:SOk t S) (hd0:d=12-f) (hf:f≤11)
  (IH:∀(n lo hi d:Int) (S:List Int) (D:Int) (w:World),d=13-f→Below w0.heap.size w0 w→WalkerAt w pb mb nv t.root S D→SOk t S →
   Calls Tryd.prog 85 #[.pointer (some ⟨pb,0,none⟩), .int .i64 n, .int .i64 lo, .int .i64 hi, .int .i64 d] w (NodePost pb mb nv t.root (nodeS t f n lo hi (S,D)) w))
  (hx:t.at? n=some x) (hnS:n∉S) (hleaf:x.leaf=false) :
  Calls Tryd.prog 85 #[.pointer (some ⟨pb,0,none⟩), .int .i64 n, .int .i64 lo, .int .i64 hi, .int .i64 d] w (NodePost pb mb nv t.root (nodeS t (f+1) n lo hi (S,D)) w):=by
 have hyes:InnOk x lo hi→nodeS t (f+1) n lo hi (S,D)=kidsS (fun k a b s=>nodeS t f k a b s) x lo hi x.kids 0 (n::S,D):=fun h=>nodeS_inner hx hnS hleaf h
 have hno:¬InnOk x lo hi→nodeS t (f+1) n lo hi (S,D)=none:=fun h=>nodeS_noinner hx hleaf h
 have hS1:SOk t (n::S):=hS.cons hnS hx
 obtain⟨hn0,hn1,hn2⟩:=at?_get hx
 obtain⟨j,hj⟩:∃j:Nat,n=j:=⟨n.toNat,by omega⟩
 subst hj
 rw [Int.toNat_natCast]at hn1 hn2
 have hd1:1≤d:=by omega
 have hd2:d≤12:=by omega
 obtain⟨nb,noff,c,ev,kv,dv,bv,rfl,hnb,hE,hK,hD,hB,c0,c1,c2,c3,c4⟩:=node_later h0 hb0 hn2
 have hlen:=h0.len.2
 obtain⟨ae,ne,rfl⟩:=hE.isSlice
 obtain⟨ak,nk,rfl⟩:=hK.isSlice
 obtain⟨ad,ndd,rfl⟩:=hD.isSlice
 obtain⟨ab,nbb,rfl⟩:=hB.isSlice
 obtain⟨plt,pne,p0,p1,p2,p3,pfr,hset⟩:=hw
 have hbz:=hb0.size
 have l1:=hE.len (by decide)
 have l2:=hK.len (by decide)
 have l3:=hD.len (by decide)
 have l4:=hB.len (by decide)
 have hSl:=hS.le
 rw [hleaf]at c0
 have hmlt:=hset.lt
 have hnm:nb≠mb:=by omega
 have hnp:nb≠pb:=by omega
 have hlook:=hset.look (n:=(j:Int)) (by unfold i64;omega)
 rw [show decide ((j:Int)∈S)=false by simp [hnS]]at hlook
 have hkey:keyOf Tryd.prog 3 (.int .i64 (j:Int))=some (.int .i64 (j:Int)):=keyOf_int_mk Tryd.underlying3 (wf_i64 (by unfold i64;omega))
 have HE:=Lib.hid fun w' (hb:Below w0.heap.size w0 w')=>rising_any (lo:=lo) (hi:=hi) (hB.below hb (Nat.le_refl _))
 have HIFF:=Lib.hid (innOk_iff (x:=x) (lo:=lo) (hi:=hi))
 have HYES:=Lib.hid hyes
 have HNO:=Lib.hid hno
 have HIH:=Lib.hid IH
 have HD0:=Lib.hid hd0
 have HS1:=Lib.hid hS1
 have HKEY:=Lib.hid fun w' (hb:Below w0.heap.size w0 w') (i:Nat) (y:Int) (hy:x.keys[i]?=some y)=>IntsAt.get (hK.below hb (Nat.le_refl _)) hy
 have HKID:=Lib.hid fun w' (hb:Below w0.heap.size w0 w') (i:Nat) (y:Int) (hy:x.kids[i]?=some y)=>IntsAt.get (hD.below hb (Nat.le_refl _)) hy
 clear h0 hE hK hD hB hx hn0 hnS hyes hno hleaf hd0 hS hS1 IH
 obtain⟨lk,hlk⟩:∃lk,x.keys.length=lk:=⟨_,rfl⟩
 obtain⟨ld,hld⟩:∃ld,x.kids.length=ld:=⟨_,rfl⟩
 have HLK:=Lib.hid hlk
 have HLD:=Lib.hid hld
 clear hlk hld
 generalize x.ents.length=le at *
 generalize x.buf.length=lb at *
 generalize entsB x.buf lo hi=be at *
 rw [HLK.out]at c2 l2 HIFF
 rw [HLD.out]at c3 l3 HIFF
 go_enter Tryd.func85,Tryd.ntmps85
 go_upto_region 4 with (first|(at_mapUpdate;refine wpList_mapUpdate_own _ rfl _ _ _ 154 rfl 3 4 Tryd.keyedInt Tryd.underlying154 _ mb S.length (setB S) rfl hset (by unfold maxLen;omega) _ _ (.int .i64 (j:Int)) rfl rfl hkey (.lit (.bool true)) [] (plainElem_bool Tryd.underlying4 true) ?_;intro w1 hown1 hgrow1))
 have ht1:Turn (Own2 pb mb) w w1:=(Turn.refl _ _).grown hgrow1 (fun k hk=>by cases hk;exact .inl (.inr rfl))
 have hset1:SetAt w1 mb ((j:Int)::S):=SetAt.put hown1 rfl
 have gz:w.heap.size≤w1.heap.size:=hgrow1.size
 have gc:∀b,b≠mb→b<w.heap.size→∀o,w1.cell? ⟨b,o,none⟩=w.cell? ⟨b,o,none⟩:=fun b h1 h2 o=>World.cell?_of_block (hgrow1.block b h2 (fun e=>h1 (Option.some.inj e.symm).symm))
 have gf:∀b,b≠mb→b<w.heap.size→∀o,w1.frozen? ⟨b,o,none⟩=w.frozen? ⟨b,o,none⟩:=fun b h1 h2 o=>World.frozen?_of_block (hgrow1.block b h2 (fun e=>h1 (Option.some.inj e.symm).symm))
 have hnbw:nb<w.heap.size:=by omega
 replace p0:=(gc pb pne plt 0).trans p0
 replace p1:=(gc pb pne plt 1).trans p1
 replace p2:=(gc pb pne plt 2).trans p2
 replace p3:=(gc pb pne plt 3).trans p3
 replace pfr:=fun o=>(gf pb pne plt o).trans (pfr o)
 replace c0:=(gc nb hnm hnbw _).trans c0
 replace c1:=(gc nb hnm hnbw _).trans c1
 replace c2:=(gc nb hnm hnbw _).trans c2
 replace c3:=(gc nb hnm hnbw _).trans c3
 replace c4:=(gc nb hnm hnbw _).trans c4
 have plt1:pb<w1.heap.size:=by omega
 clear gc gf hgrow1 hown1 hlook hset hkey
 have hb1:Below w0.heap.size w0 w1:=ht1.below hb0 hbz (fun i hi=>by rcases hi with rfl|rfl <;> omega)
 go_upto_region 5 with (fail)
 obtain⟨W2,hW2⟩:∃W2,W2=w1.alloc (.cells #[.bool false, .slice ae le ne, .slice ak lk nk, .slice ad ld ndd, .slice ab lb nbb] 133):=⟨_,rfl⟩
 have hn2':Turn (fun _=>False) w1 W2:=by rw [hW2];exact(Turn.refl _ _).alloc _
 have k1:W2.heap[w1.heap.size]?=some (.cells #[.bool false, .slice ae le ne, .slice ak lk nk, .slice ad ld ndd, .slice ab lb nbb] 133):=by
  rw [hW2];exact heap_new _ _ rfl
 have hw2:WalkerAt W2 pb mb (.slice (some ⟨nb,noff,none⟩) t.nodes.length c) t.root ((j:Int)::S) D:=
  (⟨plt1,pne,p0,p1,p2,p3,pfr,hset1⟩:WalkerAt w1 pb mb _ t.root ((j:Int)::S) D).turn hn2' (fun h=>h) (fun h=>h)
 have ht2:Turn (Own2 pb mb) w W2:=ht1.trans (hn2'.mono (fun _ _ h=>h.elim))
 have hb2:Below w0.heap.size w0 W2:=ht2.below hb0 hbz (fun i hi=>by rcases hi with rfl|rfl <;> omega)
 have hz1:w1.heap.size<W2.heap.size:=(Array.getElem?_eq_some_iff.1 k1).1
 rw [←hW2]
 clear hW2 hn2' p0 p1 p2 p3 pfr c0 c1 c2 c3 c4 hset1 hb1 hb0 hn1 hn2
 obtain⟨x0,x1,x2,x3,x4⟩:W2.cell? ⟨w1.heap.size,0,none⟩=some (.bool false)∧W2.cell? ⟨w1.heap.size,1,none⟩=some (.slice ae le ne)∧W2.cell? ⟨w1.heap.size,2,none⟩=some (.slice ak lk nk)∧W2.cell? ⟨w1.heap.size,3,none⟩=some (.slice ad ld ndd)∧W2.cell? ⟨w1.heap.size,4,none⟩=some (.slice ab lb nbb):=by
  simp [World.cell?,k1]
 have HW:=Lib.hid hw2
 have HT2:=Lib.hid ht2
 have HEW:=Lib.hid (HE.out W2 hb2)
 have hwl:IntKind.i64.wrap ((ld:Int)-1)=(ld:Int)-1:=IntWalk.i64_in _ (by omega)
 clear hw2 HE
 by_cases hok:InnOk x lo hi
 ·have HR:=Lib.hid (HYES.out hok)
  obtain⟨e1,e2,e3,e4,e5,e6⟩:=HIFF.out.1 hok
  subst e1 e6
  have d3:((lk:Int) != (ld:Int)-1)=false:=by simp;omega
  have e4a:lk+1≤ld:=by omega
  have e4b:ld≤lk+1:=by omega
  clear hok e4
  go_upto_region 11 with ((go_at_call 98;(with_reducible refine HEW.out.mono ?_);rintro e' w4 ⟨rfl,BE⟩))
  have k4:w4.heap[w1.heap.size]?=_:=(BE.block _ hz1).trans k1
  have hz4:w1.heap.size<w4.heap.size:=(Array.getElem?_eq_some_iff.1 k4).1
  have ht4:Turn (fun _=>False) W2 w4:=Turn.of BE (Nat.le_refl _)
  have hb4:Below w0.heap.size w0 w4:=Below.trans' hb2 BE hb2.size
  have HW4:=Lib.hid (HW.out.turn ht4 (fun h=>h) (fun h=>h))
  have HC:=Lib.hid fun wr (ht:Turn (Own2 pb mb) w4 wr)=>(by
   have b1:wr.heap[w1.heap.size]?=_:=(ht.block _ hz4 (fun h=>by rcases h with h|h <;> omega)).trans k4
   simp [World.cell?,b1] :
   wr.cell? ⟨w1.heap.size,2,none⟩=some (.slice ak lk nk)∧wr.cell? ⟨w1.heap.size,3,none⟩=some (.slice ad ld ndd))
  have HB:=Lib.hid fun wr (ht:Turn (Own2 pb mb) w4 wr)=>(Turn.below (B:=w0.heap.size) ht hb4 hb4.size (fun i hi=>by rcases hi with rfl|rfl <;> omega):Below w0.heap.size w0 wr)
  have HT:=Lib.hid fun wr (ht:Turn (Own2 pb mb) w4 wr)=>((HT2.out.trans (ht4.mono (fun _ _ h=>h.elim))).trans ht:Turn (Own2 pb mb) w wr)
  clear x0 x1 x2 x3 x4 k1 k4 hb2 hb4 ht1 ht2 ht4 BE HEW HNO HYES HIFF HW HT2 hwl d3
  obtain⟨u2,u3⟩:=HC.out w4 (Turn.refl _ _)
  go_wp2_with fail
  clear u2 u3
  go_loopg [159] ld (fun g i wr=>∃(k:Nat) (S':List Int) (D':Int),k≤ld∧g=ld-k∧i = .int .i64 k∧Hid (SOk t S') ∧
   Hid (nodeS t (f+1) (j:Int) lo hi (S,D)=kidsS (fun k a b s=>nodeS t f k a b s) x lo hi (x.kids.drop k) k (S',D'))∧Turn (Own2 pb mb) w4 wr∧Hid (WalkerAt wr pb mb (.slice (some ⟨nb,noff,none⟩) t.nodes.length c) t.root S' D'))
  case atStart=>exact⟨0,(j:Int)::S,D,Nat.zero_le _,rfl,rfl,HS1,Lib.hid (by rw [HR.out];rfl),Turn.refl _ _,HW4⟩
  case round=>
   obtain⟨k,S',D',hk,rfl,rfl,HS',HREC,ht,HW'⟩:=hrel
   obtain⟨p2,p3⟩:=HC.out _ ht
   by_cases hlt':k<ld
   ·obtain⟨K,hK⟩:∃K,x.kids[k]?=some K:=⟨x.kids[k]'(by rw [HLD.out];exact hlt'),by simp⟩
    obtain⟨kb,koff,kcap,ke,hkb,hkc⟩:=HKID.out _ (HB.out _ ht) k K hK
    injection ke with ke1 ke2 ke3
    subst ke1 ke3
    obtain⟨F,hF⟩:∃F,x.from lo k=F:=⟨_,rfl⟩
    obtain⟨T,hT⟩:∃T,x.upto hi k=T:=⟨_,rfl⟩
    have HSTEP:=Lib.hid (HREC.out.trans (kidsS_step (by rw [HLD.out];exact hlt')))
    have hKe:x.kids[k]'(by rw [HLD.out];exact hlt')=K:=(List.getElem?_eq_some_iff.1 hK).2
    rw [hKe,hF,hT]at HSTEP
    have hLkd:lk≤ld:=by omega
    have HUP:Hid ((k<lk→x.keys[k]?=some T)∧(¬k<lk→T=hi)):=Lib.hid ⟨fun h=>by
      have hlk:k<x.keys.length:=by have:=HLK.out;omega
      rw [←hT];simp [Nd.upto,hlk],fun h=>by
      have hlk:¬k<x.keys.length:=by have:=HLK.out;omega
      rw [←hT];simp [Nd.upto,hlk]⟩
    have HFR:Hid ((0<k→x.keys[k-1]?=some F)∧(k=0→F=lo)):=Lib.hid ⟨fun h=>by
      have hlk:k-1<x.keys.length:=by have:=HLK.out;omega
      have hk0:k≠0:=by omega
      rw [←hF];simp [Nd.from,hk0,hlk],fun h=>by
      rw [←hF];simp [Nd.from,h]⟩
    clear hK hT hF hKe
    go_upto_if 167 with (fail)
    go_cut [14] (fun v wx=>v = .int .i64 F∧wr=wx)
    case first=>
     by_cases hk2:0<k
     ·obtain⟨b2,off2,cap2,e2,hb2',hc2⟩:=HKEY.out _ (HB.out _ ht) (k-1) F (HFR.out.1 hk2)
      injection e2 with f1 f2 f3
      subst f1 f3
      have hix:=fun w=>idx_int (ab:=b2) (aoff:=off2) (n:=lk) (cap:=nk) (show (k:Int)-1=((k-1:Nat):Int) by omega) (by omega) w
      have hw1:IntKind.i64.wrap ((k:Int)-1)=(k:Int)-1:=IntWalk.i64_in _ (by omega)
      rw [HLK.out]at *
      clear f2 ke2
      go_wp2
      go_meet
      exact⟨rfl,rfl⟩
     ·obtain rfl:k=0:=by omega
      have HTE:=Lib.hid (HFR.out.2 rfl)
      clear ke2
      go_wp2
      go_meet
      exact⟨by rw [HTE.out],rfl⟩
    case rest=>
     obtain⟨rfl,rfl⟩:=hcut
     go_upto_if 178 with (fail)
     go_cut [15] (fun v wx=>v = .int .i64 T∧wr=wx)
     case first=>
      by_cases hk2:k<lk
      ·obtain⟨b2,off2,cap2,e2,hb2',hc2⟩:=HKEY.out _ (HB.out _ ht) k T (HUP.out.1 hk2)
       injection e2 with f1 f2 f3
       subst f1 f3
       clear f2 ke2
       go_wp2
       go_meet
       exact⟨rfl,rfl⟩
      ·have HTE:=Lib.hid (HUP.out.2 hk2)
       clear ke2
       go_wp2
       go_meet
       exact⟨by rw [HTE.out],rfl⟩
     case rest=>
      obtain⟨rfl,rfl⟩:=hcut
      clear p2 p3 ke2
      by_cases g1:F<T∧lo≤F∧T≤hi
      ·have HD1:=Lib.hid (show d+1=13-f by have:=HD0.out;omega)
       have hwd:IntKind.i64.wrap (d+1)=d+1:=IntWalk.i64_in _ (by omega)
       have HCALL:=Lib.hid (HIH.out K F T (d+1) S' D' wr HD1.out (HB.out _ ht) HW'.out HS'.out)
       obtain⟨a1,a2,a3⟩:=g1
       cases hR:nodeS t f K F T (S',D') with
       |none=>
        have HRN:=Lib.hid (show nodeS t (f+1) (j:Int) lo hi (S,D)=none by rw [HSTEP.out,if_pos ⟨a1,a2,a3⟩];simp only [hR])
        rw [hR]at HCALL
        clear hR
        go_wp2_with ((go_at_call 85;(with_reducible refine HCALL.out.mono ?_);rintro e w5 ⟨ht5,rfl⟩))
        go_ret
        rw [HRN.out]
        exact npost_none ((HT.out _ ht).trans ht5) rfl
       |some p=>
        obtain⟨S2,D2⟩:=p
        have HRS:=Lib.hid (show nodeS t (f+1) (j:Int) lo hi (S,D)=kidsS (fun k a b s=>nodeS t f k a b s) x lo hi (x.kids.drop (k+1)) (k+1) (S2,D2) by rw [HSTEP.out,if_pos ⟨a1,a2,a3⟩];simp only [hR])
        have HS2:=Lib.hid (show SOk t S2 from nodeS_ok f K F T (S',D') (S2,D2) HS'.out hR)
        rw [hR]at HCALL
        clear hR
        go_wp2_with ((go_at_call 85;(with_reducible refine HCALL.out.mono ?_);rintro e w5 ⟨ht5,rfl,hw5⟩))
        go_roundg (ld-(k+1))
        case measure=>omega
        case rel=>exact⟨k+1,S2,D2,by omega,rfl,by go_num,HS2,HRS,ht.trans ht5,Lib.hid hw5⟩
      ·have HRN:=Lib.hid (show nodeS t (f+1) (j:Int) lo hi (S,D)=none by rw [HSTEP.out,if_neg g1])
       by_cases a1:F<T
       ·by_cases a2:lo≤F
        ·have a3:hi<T:=by omega
         clear g1
         go_wp2
         go_ret
         rw [HRN.out]
         exact npost_none (HT.out _ ht) rfl
        ·have a2':F<lo:=by omega
         clear g1
         go_wp2
         go_ret
         rw [HRN.out]
         exact npost_none (HT.out _ ht) rfl
       ·have a1':T≤F:=by omega
        clear g1
        go_wp2
        go_ret
        rw [HRN.out]
        exact npost_none (HT.out _ ht) rfl
   ·have HRES:=Lib.hid (HREC.out.trans (kidsS_end (by rw [HLD.out];omega)))
    go_wp2
    go_ret
    rw [HRES.out]
    exact npost_some (HT.out _ ht) rfl HW'.out
 ·have HR:=Lib.hid (HNO.out hok)
  have hiff:=HIFF.out
  by_cases g1:le=0
  ·subst g1
   by_cases g2:ld≤4
   ·by_cases g2':2≤ld
    ·by_cases g3:lk+1=ld
     ·have d3:((lk:Int) != (ld:Int)-1)=false:=by simp;omega
      by_cases g4:lb≤8
      ·have hbe:be=false:=by
        cases be with
        |false=>rfl
        |true=>exact absurd (hiff.2 ⟨rfl,g2',g2,g3,g4,rfl⟩) hok
       subst hbe
       clear hok hiff g3 HIFF
       go_wp2_with ((go_at_call 98;(with_reducible refine HEW.out.mono ?_);rintro e' w4 ⟨rfl,BE⟩))
       go_ret
       rw [HR.out]
       exact npost_none (HT2.out.trans (Turn.of BE (Nat.le_refl _))) rfl
      ·have g4':8<lb:=by omega
       clear hok hiff g3 HIFF
       go_wp2
       go_ret
       rw [HR.out]
       exact npost_none HT2.out rfl
     ·have d3:((lk:Int) != (ld:Int)-1)=true:=by simp;omega
      clear hok hiff g3 HIFF
      go_wp2
      go_ret
      rw [HR.out]
      exact npost_none HT2.out rfl
    ·have g2'':ld<2:=by omega
     clear hok hiff HIFF
     go_wp2
     go_ret
     rw [HR.out]
     exact npost_none HT2.out rfl
   ·have g2':4<ld:=by omega
    clear hok hiff HIFF
    go_wp2
    go_ret
    rw [HR.out]
    exact npost_none HT2.out rfl
  ·have g1':0<le:=by omega
   clear hok hiff HIFF
   go_wp2
   go_ret
   rw [HR.out]
   exact npost_none HT2.out rfl
theorem node_any {t:Tr} {nv:Value} {w0:World} (h0:NodesAt w0 nv t.nodes) {pb mb:Nat} (hpb:w0.heap.size≤pb) (hmb:w0.heap.size≤mb):∀(f:Nat),f≤12→∀(n lo hi d:Int) (S:List Int) (D:Int) (w:World),d=13-f→Below w0.heap.size w0 w→WalkerAt w pb mb nv t.root S D→SOk t S →
  Calls Tryd.prog 85 #[.pointer (some ⟨pb,0,none⟩), .int .i64 n, .int .i64 lo, .int .i64 hi, .int .i64 d] w (NodePost pb mb nv t.root (nodeS t f n lo hi (S,D)) w):=by
 intro f
 induction f with
 |zero=>intro _ n lo hi d S D w hd hb hw hS;exact node_bad h0 hw hd (by omega) (.inl rfl)
 |succ f ih=>
  intro hf n lo hi d S D w hd hb hw hS
  cases hx:t.at? n with
  |none=>exact node_bad h0 hw hd hf (.inr (.inl hx))
  |some x=>
   by_cases hn:n∈S
   ·exact node_bad h0 hw hd hf (.inr (.inr hn))
   ·cases hl:x.leaf with
    |true=>exact node_leaf h0 hb hpb hmb hw hS (by omega) (by omega) hx hn hl
    |false=>exact node_inner h0 hb hpb hmb hw hS (by omega) (by omega) (fun n lo hi d S D w=>ih (by omega) n lo hi d S D w) hx hn hl
end Go.Proofs.YtnjfkcimboidnaaDoor

/- The walk of the program's Check of a tree. -/
namespace Go.Proofs.YtnjfkcimboidnaaDoor
open Go.RowKit Go.Maps
set_option maxRecDepth 100000 in
set_option maxHeartbeats 1000000 in
theorem treeCheck_any {v:Value} {t:Tr} {w:World} (h:TreeAt w v t) :
  Calls Tryd.prog 70 #[v] w fun e w'=>e = .returned (.int .i64 (treeFault t))∧Below w.heap.size w w':=by
 obtain⟨nv,rfl,hn⟩:=h
 rw [←checkS_eq]
 obtain⟨⟨ao,cap,rfl⟩,hlen⟩:=hn.len
 by_cases hbig:2000<t.nodes.length
 ·have HR:=Lib.hid (show checkS t=1 from if_pos hbig)
  go_enter Tryd.func70,Tryd.ntmps70
  go_wp2
  go_ret
  exact⟨ret_int HR.out.symm,(by repeat (first|exact Below.refl _ _|assumption|refine below_dn ?_ _|refine Below.drew ?_|refine Below.alloc ?_ (by first|omega|(simp;done)|(simp;omega)) _|refine Below.setCell ?_ (by first|omega|(simp;done)|(simp;omega)) _))⟩
 ·have hsm:t.nodes.length≤2000:=by omega
  have HR:=Lib.hid (show checkS t=_ from if_neg hbig)
  have hmm:=@run_makeMap Tryd.prog
  clear hbig
  go_enter Tryd.func70,Tryd.ntmps70
  go_upto_region 4 with (fail)
  obtain⟨W3,hW3⟩:∃W3,W3=((w.alloc (.cells #[.slice ao t.nodes.length cap, .int .i64 t.root] 32)).alloc (.map #[] 0)).alloc (.cells #[.slice ao t.nodes.length cap, .int .i64 t.root, .map (some (w.heap.size+1)), .int .i64 0] 156):=⟨_,rfl⟩
  have hb3:Below w.heap.size w W3:=by rw [hW3];exact(by repeat (first|exact Below.refl _ _|assumption|refine below_dn ?_ _|refine Below.drew ?_|refine Below.alloc ?_ (by first|omega|(simp;done)|(simp;omega)) _|refine Below.setCell ?_ (by first|omega|(simp;done)|(simp;omega)) _))
  have hz3:W3.heap.size=w.heap.size+1+1+1:=by rw [hW3];simp
  have k0:W3.heap[w.heap.size]?=some (.cells #[.slice ao t.nodes.length cap, .int .i64 t.root] 32):=by
   rw [hW3,Below.heap_alloc _ _ _ (by simp;omega),Below.heap_alloc _ _ _ (by simp)];exact heap_new _ _ rfl
  have k2:W3.heap[w.heap.size+1+1]?=some (.cells #[.slice ao t.nodes.length cap, .int .i64 t.root, .map (some (w.heap.size+1)), .int .i64 0] 156):=by
   rw [hW3];exact heap_new _ _ (by simp)
  have hset:SetAt W3 (w.heap.size+1) []:=by
   have h1:=World.ownsMap_made (H:=Unit) (w.alloc (.cells #[.slice ao t.nodes.length cap, .int .i64 t.root] 32)) Tryd.prog 3 (plainElem Tryd.prog 4)
   rw [show (w.alloc (.cells #[.slice ao t.nodes.length cap, .int .i64 t.root] 32)).heap.size=w.heap.size+1 by simp]at h1
   have h2:SetAt _ (w.heap.size+1) []:=h1
   rw [hW3]
   exact h2.turn (X:=fun _=>False) ((Turn.refl _ _).alloc _) (fun h=>h)
  have hw3:WalkerAt W3 (w.heap.size+1+1) (w.heap.size+1) (.slice ao t.nodes.length cap) t.root [] 0:=
   ⟨by omega,by omega,by simp [World.cell?,k2],by simp [World.cell?,k2],by simp [World.cell?,k2],by simp [World.cell?,k2],fun o=>by simp [World.frozen?,k2],hset⟩
  have q1:W3.cell? ⟨w.heap.size,1,none⟩=some (.int .i64 t.root):=by simp [World.cell?,k0]
  have HCALL:=Lib.hid (node_any hn (pb:=w.heap.size+1+1) (mb:=w.heap.size+1) (by omega) (by omega) 12 (Nat.le_refl _) t.root 0 1099511627776 1 [] 0 W3.drew (by decide) hb3.drew (hw3.turn (X:=fun _=>False) (Turn.refl _ _).drew (fun h=>h) (fun h=>h)) ⟨List.nodup_nil,fun y h=>by cases h⟩)
  have HB:=Lib.hid fun w5 (ht:Turn (Own2 (w.heap.size+1+1) (w.heap.size+1)) W3.drew w5)=>(ht.below hb3.drew hb3.size (fun i hi=>by rcases hi with rfl|rfl <;> omega):Below w.heap.size w w5)
  have HC0:=Lib.hid fun w5 (ht:Turn (Own2 (w.heap.size+1+1) (w.heap.size+1)) W3.drew w5)=>(by
   have b0:w5.heap[w.heap.size]?=_:=(ht.block _ (by show w.heap.size<W3.heap.size;omega) (fun h=>by rcases h with h|h <;> omega)).trans k0
   simp [World.cell?,b0]:w5.cell? ⟨w.heap.size,0,none⟩=some (.slice ao t.nodes.length cap)∧w5.cell? ⟨w.heap.size,1,none⟩=some (.int .i64 t.root))
  have hs0:W3.drew.cell? ⟨w.heap.size,0,none⟩=some (.slice ao t.nodes.length cap)∧W3.drew.cell? ⟨w.heap.size,1,none⟩=some (.int .i64 t.root)∧W3.drew.cell? ⟨w.heap.size+1+1,2,none⟩=some (.map (some (w.heap.size+1))):=by
   obtain⟨a,b⟩:=HC0.out _ (Turn.refl _ _)
   exact⟨a,b,hw3.c2⟩
  rw [←hW3]
  clear hW3 k0 k2 hset hw3 hmm hn
  have HOK:=Lib.hid fun S D=>nodeS_ok (t:=t) 12 t.root 0 1099511627776 ([],0) (S,D) ⟨List.nodup_nil,fun y h=>by cases h⟩
  cases hr:nodeS t 12 t.root 0 1099511627776 ([],0) with
  |none=>
   rw [hr]at HCALL
   have HR':=Lib.hid (show checkS t=7 by rw [HR.out,hr])
   clear hr
   refine wp_region_pivot 3 _ rfl (by kernel_rfl) (by kernel_rfl) ?_
   (simp only [List.take_succ_cons,List.take_zero,List.drop_succ_cons,List.drop_zero];(repeat ((with_reducible refine wpStill_step (fun K hK=>?_));go_simp;(with_reducible refine hK _ ?_);clear hK K));(with_reducible refine wpStill_nil ?_))
   intro K hK
   go_simp
   (with_reducible refine HCALL.out.mono ?_);rintro e w5 ⟨ht5,rfl⟩
   go_simp
   refine hK _ _ ?_
   clear hK K
   ((repeat ((with_reducible refine wpStill_step (fun K hK=>?_));go_simp;(with_reducible refine hK _ ?_);clear hK K));(with_reducible refine wpStill_nil ?_))
   all_goals
    go_wp2
    go_ret
    exact⟨ret_int HR'.out.symm,HB.out _ ht5⟩
  |some p=>
   obtain⟨S,D⟩:=p
   have hok:=HOK.out S D hr
   rw [hr]at HCALL
   by_cases hl:S.length=t.nodes.length
   ·have HR':=Lib.hid (show checkS t=0 by rw [HR.out,hr];exact if_pos hl)
    have hl':((S.length:Int) != (t.nodes.length:Int))=false:=by simp [hl]
    have HN:=Lib.hid hok.1
    clear hr hok hl
    refine wp_region_pivot 3 _ rfl (by kernel_rfl) (by kernel_rfl) ?_
    (simp only [List.take_succ_cons,List.take_zero,List.drop_succ_cons,List.drop_zero];(repeat ((with_reducible refine wpStill_step (fun K hK=>?_));go_simp;(with_reducible refine hK _ ?_);clear hK K));(with_reducible refine wpStill_nil ?_))
    intro K hK
    go_simp
    (with_reducible refine HCALL.out.mono ?_);rintro e w5 ⟨ht5,rfl,hw5⟩
    have c2:=hw5.c2
    obtain⟨c0,-⟩:=HC0.out _ ht5
    have hl5:=hw5.set.len HN.out
    go_simp
    refine hK _ _ ?_
    clear hK K
    ((repeat ((with_reducible refine wpStill_step (fun K hK=>?_));go_simp;(with_reducible refine hK _ ?_);clear hK K));(with_reducible refine wpStill_nil ?_))
    all_goals
     go_wp2
     go_ret
     exact⟨ret_int HR'.out.symm,HB.out _ ht5⟩
   ·have HR':=Lib.hid (show checkS t=7 by rw [HR.out,hr];exact if_neg hl)
    have hl':((S.length:Int) != (t.nodes.length:Int))=true:=by simp;omega
    have HN:=Lib.hid hok.1
    clear hr hok hl
    refine wp_region_pivot 3 _ rfl (by kernel_rfl) (by kernel_rfl) ?_
    (simp only [List.take_succ_cons,List.take_zero,List.drop_succ_cons,List.drop_zero];(repeat ((with_reducible refine wpStill_step (fun K hK=>?_));go_simp;(with_reducible refine hK _ ?_);clear hK K));(with_reducible refine wpStill_nil ?_))
    intro K hK
    go_simp
    (with_reducible refine HCALL.out.mono ?_);rintro e w5 ⟨ht5,rfl,hw5⟩
    have c2:=hw5.c2
    obtain⟨c0,-⟩:=HC0.out _ ht5
    have hl5:=hw5.set.len HN.out
    go_simp
    refine hK _ _ ?_
    clear hK K
    ((repeat ((with_reducible refine wpStill_step (fun K hK=>?_));go_simp;(with_reducible refine hK _ ?_);clear hK K));(with_reducible refine wpStill_nil ?_))
    all_goals
     go_wp2
     go_ret
     exact⟨ret_int HR'.out.symm,HB.out _ ht5⟩
end Go.Proofs.YtnjfkcimboidnaaDoor
