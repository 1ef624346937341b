/- Texts of mine that come as one: NodeA NodeB NodeC Check. -/
import Derived.Test.YtmljjfhgciaceaaDoorHd
import Derived.Test.YtmljjfhgciaceaaDoorPA
import Derived.Test.YtmljjfhgciaceaaDoorSR
import Derived.Test.YtmljjfhgciaceaaDoorSX
import Derived.Deep.CutBlock
import Derived.Test.YtmljjfhgciaceaaDoorSO
import Derived.Carry
import Derived.Deep.RegionHeld3
namespace Go.Proofs.YtmljjfhgciaceaaDoor
open Go.RowKit
section
set_option maxRecDepth 100000
set_option maxHeartbeats 1000000
variable {e:Ending} {D:Int} {S:List Int} {pb mb:Nat} {nv:Value} {w w':World}
structure dJ (w:World) (pb mb:Nat) (nv:Value) (root:Int) (S:List Int) (D:Int):Prop where
 lt:pb<w.heap.size
 ne:pb≠mb
 c0:w.cell? ⟨pb,0,none⟩=some nv
 c1:w.cell? ⟨pb,1,none⟩=some (.int .i64 root)
 c2:w.cell? ⟨pb,2,none⟩=some (.map (some mb))
 c3:w.cell? ⟨pb,3,none⟩=some (.int .i64 D)
 fr:∀o,w.frozen? ⟨pb,o,none⟩=false
 set:jx w mb S
def Own2 (pb mb:Nat) (b:Nat):Prop:=b=pb\/b=mb
theorem dJ.turn {root:Int} (h:dJ w pb mb nv root S D) {X:Nat->Prop} (ht:aa0 X w w') (hp:¬X pb) (hm:¬X mb):dJ w' pb mb nv root S D:=
 ⟨mQ h.lt ht.size,h.ne,(ht.cell h.lt hp 0).trans h.c0,(ht.cell h.lt hp 1).trans h.c1,(ht.cell h.lt hp 2).trans h.c2,(ht.cell h.lt hp 3).trans h.c3,fun o=>(ht.frozen h.lt hp o).trans (h.fr o),h.set.turn ht hm⟩
def nz (pb mb:Nat) (nv:Value) (root:Int) (r:Option (List Int×Int)) (w:World) (e:Ending) (w':World):Prop:=
 aa0 (Own2 pb mb) w w'/\(match r with|none=>e = .returned (.bool false)|some (S',D')=>e = .returned (.bool true)/\dJ w' pb mb nv root S' D')
theorem aa1 {root:Int} (ht:aa0 (Own2 pb mb) w w') (he:e = .returned (.bool false)):nz pb mb nv root none w e w':=⟨ht,he⟩
theorem tD {root:Int} (ht:aa0 (Own2 pb mb) w w') (he:e = .returned (.bool true)) (hw:dJ w' pb mb nv root S D):nz pb mb nv root (some (S,D)) w e w':=⟨ht,he,hw⟩
theorem zm {t:Tr} {w0:World} (h0:bz w0 nv t.nodes) {f:Nat} {n lo hi d:Int} (hw:dJ w pb mb nv t.root S D) (hd:d=13-f) (hf:f<=12) (hbad:f=0\/t.dh n=none\/n∈S) :
  Calls Tryd.prog 93 #[.pointer (some ⟨pb,0,none⟩), .int .i64 n, .int .i64 lo, .int .i64 hi, .int .i64 d] w (nz pb mb nv t.root (dQ t f n lo hi (S,D)) w):=by
 have hr:dQ t f n lo hi (S,D)=none:=by
  cases f with
  |zero=>rfl
  |succ f=>
   rcases hbad with h|h|h
   ·cases h
   ·exact zn h
   ·cases hx:t.dh n with
    |none=>exact zn hx
    |some x=>exact Gk hx h
 rw [hr]
 obtain⟨⟨ao,c,rfl⟩,hlen⟩:=h0.len
 obtain⟨lt,ne,c0,c1,c2,c3,fr,ey⟩:=hw
 by_cases hin:t.dh n=none
 ·have hn:=NF hin
  clear hr hbad hd hin h0 fr ey
  by_cases hn0:n<0
  ·clear hn
   go_enter Tryd.func93,Tryd.ntmps93
   go_wp2
   go_ret
   exact aa1 (aa0.refl _ _) rfl
  ·have GU:(t.nodes.length:Int)<=n:=af
   clear hn
   go_enter Tryd.func93,Tryd.ntmps93
   go_wp2
   go_ret
   exact aa1 (aa0.refl _ _) rfl
 ·obtain⟨x,hx⟩:=Option.ne_none_iff_exists'.1 hin
  obtain⟨hn0,GU,-⟩:=uY hx
  have xE:n<(t.nodes.length:Int):=af
  have xF:=ey.look (n:=n) (by unfold i64;omega)
  by_cases hs:n∈S
  ·have hs':decide (n∈S)=true:=by simp [hs]
   rw [hs']at xF
   clear hr hbad hd hin h0 fr ey hs hs' hx
   go_enter Tryd.func93,Tryd.ntmps93
   go_wp2
   go_ret
   exact aa1 (aa0.refl _ _) rfl
  ·obtain rfl:f=0:=by rcases hbad with h|h|h;exact h;exact absurd h hin;exact absurd h hs
   have hs':decide (n∈S)=false:=by simp [hs]
   rw [hs']at xF
   have d2:(12:Int)<d:=af
   clear hr hbad hd hin h0 fr ey hs hs' hx
   go_enter Tryd.func93,Tryd.ntmps93
   go_wp2
   go_ret
   exact aa1 (aa0.refl _ _) rfl
end
open Go.Maps
section
set_option maxRecDepth 100000
set_option maxHeartbeats 2000000
variable {n D:Int} {S:List Int} {mb pb:Nat} {nv:Value} {w:World}
theorem jx.put {w1:World} {k:Nat} (h:w1.ownsMap (H:=Unit) Tryd.prog 3 (plainElem Tryd.prog 4) mb k ((qO S).put (.int .i64 n) (.lit (.bool true)))) (hk:k=S.length+1):jx w1 mb (n::S):=by
 subst hk;exact h
theorem dJ.ZL {root:Int} (h:dJ w pb mb nv root S D) (d:Int):dJ (w.setCell ⟨pb,3,none⟩ (.int .i64 d)) pb mb nv root S d:=by
 have ht:aa0 (·=pb) w (w.setCell ⟨pb,3,none⟩ (.int .i64 d)):=aa0.setCell (X:=(·=pb)) (aa0.refl _ _) (.inl rfl) _
 refine⟨by rw [aA];exact h.lt,h.ne,?_,?_,?_,?_,fun o=>?_,h.set.turn ht h.ne.symm⟩
 ·rw [World.cell?_setCell_other _ _ _ _ bj];exact h.c0
 ·rw [World.cell?_setCell_other _ _ _ _ bj];exact h.c1
 ·rw [World.cell?_setCell_other _ _ _ _ bj];exact h.c2
 ·exact World.cell?_setCell_same' _ _ _ (by rw [h.c3];rfl)
 ·rw [<-h.fr o];simp [World.frozen?,World.setCell,Array.getElem?_modify]
  cases w.heap[pb]? with
  |none=>rfl
  |some o=>cases o <;> rfl
theorem JK {t:Tr} {w0:World} (h0:bz w0 nv t.nodes) {f:Nat} {lo hi d:Int} {x:Nd} (hb0:ah w0 w) (hpb:w0.heap.size<=pb) (hmb:w0.heap.size<=mb) (hw:dJ w pb mb nv t.root S D) (hS:FB t S) (hd0:d=12-f) (hf:f<=11) (hx:t.dh n=some x) (Q3:n∉S) (uE:x.leaf=true) :
  Calls Tryd.prog 93 #[.pointer (some ⟨pb,0,none⟩), .int .i64 n, .int .i64 lo, .int .i64 hi, .int .i64 d] w (nz pb mb nv t.root (dQ t (f+1) n lo hi (S,D)) w):=by
 have Mx:(D=0\/D=d)/\mq t n x lo hi->dQ t (f+1) n lo hi (S,D)=some (n::S,d):=fun h=>by rw [Gl hx Q3 uE (by rw [<-hd0];exact h.1) h.2,hd0]
 have hno:¬((D=0\/D=d)/\mq t n x lo hi)->dQ t (f+1) n lo hi (S,D)=none:=fun h=>Ct hx uE (by rw [<-hd0];exact h)
 obtain⟨hn0,GU,xE⟩:=uY hx
 obtain⟨j,hj⟩:∃j:Nat,n=j:=⟨n.toNat,af⟩
 subst hj
 rw [Int.toNat_natCast]at GU xE
 have hd1:1<=d:=af
 have hd2:d<=12:=af
 obtain⟨nb,gL,c,ev,kv,dv,bv,rfl,hnb,hE,hK,hD,hB,c0,c1,c2,c3,c4⟩:=pP h0 hb0 xE
 have hlen:=h0.len.2
 obtain⟨ae,ne,rfl⟩:=hE.isSlice
 obtain⟨ak,nk,rfl⟩:=hK.isSlice
 obtain⟨ad,tU,rfl⟩:=hD.isSlice
 obtain⟨ab,o8,rfl⟩:=hB.isSlice
 obtain⟨LV,JF,p0,p1,p2,p3,Oo,ey⟩:=hw
 have hbz:=hb0.size
 have l1:=hE.len aW
 have l2:=hK.len aW
 have l3:=hD.len aW
 have l4:=hB.len aW
 have hSl:=hS.le
 rw [uE]at c0
 have aaG:=ey.lt
 have yB:nb≠mb:=af
 have hnp:nb≠pb:=af
 have xF:=ey.look (n:=(j:Int)) (by unfold i64;omega)
 rw [show decide ((j:Int)∈S)=false by simp [Q3]]at xF
 have hkey:keyOf Tryd.prog 3 (.int .i64 (j:Int))=some (.int .i64 (j:Int)):=keyOf_int_mk Tryd.underlying3 (wf_i64 (by unfold i64;omega))
 have HE:=hdd fun w' (hb:ah w0 w')=>zg (lo:=lo) (hi:=hi) (hE.below hb aH)
 have qC:=hdd (Gv (t:=t) (n:=(j:Int)) (x:=x) (lo:=lo) (hi:=hi))
 have aci:=hdd fun(h:x.aF.length=0)=>(show qu x.aF lo hi=true by rw [wO h];exact pX.2 (tJ lo hi))
 have Ib:=hdd Mx
 have nI:=hdd hno
 clear h0 hE hK hD hB hx hn0 Q3 Mx hno uE hd0 hS
 generalize x.aF.length=le at *
 generalize x.keys.length=lk at *
 generalize x.kids.length=ld at *
 generalize x.buf.length=lb at *
 generalize qu x.aF lo hi=be at *
 go_enter Tryd.func93,Tryd.ntmps93
 go_upto_region 4 with (first|(at_mapUpdate;refine wpList_mapUpdate_own _ rfl _ _ _ 145 rfl 3 4 Tryd.zu Tryd.underlying145 _ mb S.length (qO S) rfl ey (by unfold maxLen;omega) _ _ (.int .i64 (j:Int)) rfl rfl hkey (.lit (.bool true)) [] (plainElem_bool Tryd.underlying4 true) ?_;intro w1 hown1 hgrow1))
 have ht1:aa0 (Own2 pb mb) w w1:=(aa0.refl _ _).grown hgrow1 (fun k hk=>by cases hk;exact .inl (.inr rfl))
 have zC:jx w1 mb ((j:Int)::S):=jx.put hown1 rfl
 have gz:w.heap.size<=w1.heap.size:=hgrow1.size
 have gc:∀b,b≠mb->b<w.heap.size->∀o,w1.cell? ⟨b,o,none⟩=w.cell? ⟨b,o,none⟩:=fun b h1 h2 o=>World.cell?_of_block (hgrow1.block b h2 (fun e=>h1 (cY e.symm).symm))
 have gf:∀b,b≠mb->b<w.heap.size->∀o,w1.frozen? ⟨b,o,none⟩=w.frozen? ⟨b,o,none⟩:=fun b h1 h2 o=>World.frozen?_of_block (hgrow1.block b h2 (fun e=>h1 (cY e.symm).symm))
 have zI:nb<w.heap.size:=af
 have p0:=(gc pb JF LV 0).trans p0
 have p1:=(gc pb JF LV 1).trans p1
 have p2:=(gc pb JF LV 2).trans p2
 have p3:=(gc pb JF LV 3).trans p3
 have Oo:=fun o=>(gf pb JF LV o).trans (Oo o)
 have c0:=(gc nb yB zI _).trans c0
 have c1:=(gc nb yB zI _).trans c1
 have c2:=(gc nb yB zI _).trans c2
 have c3:=(gc nb yB zI _).trans c3
 have c4:=(gc nb yB zI _).trans c4
 have Sa:pb<w1.heap.size:=af
 clear gc gf hgrow1 hown1 xF ey hkey
 have hb1:ah w0 w1:=ht1.below hb0 hbz (fun i hi=>by rcases hi with rfl|rfl <;> omega)
 go_upto_region 5 with (fail)
 obtain⟨W2,hW2⟩:=bP (w1.alloc (.cells #[.bool true, .slice ae le ne, .slice ak lk nk, .slice ad ld tU, .slice ab lb o8] 119))
 have xE:aa0 (fun _=>False) w1 W2:=by rw [hW2];exact(aa0.refl _ _).alloc _
 have k1:W2.heap[w1.heap.size]?=some (.cells #[.bool true, .slice ae le ne, .slice ak lk nk, .slice ad ld tU, .slice ab lb o8] 119):=by
  rw [hW2];exact aj _ _ rfl
 have hw2:dJ W2 pb mb (.slice (some ⟨nb,gL,none⟩) t.nodes.length c) t.root ((j:Int)::S) D:=
  (⟨Sa,JF,p0,p1,p2,p3,Oo,zC⟩:dJ w1 pb mb _ t.root ((j:Int)::S) D).turn xE (fun h=>h) (fun h=>h)
 have ht2:aa0 (Own2 pb mb) w W2:=ht1.trans (xE.mono (fun _ _ h=>h.elim))
 have hb2:ah w0 W2:=ht2.below hb0 hbz (fun i hi=>by rcases hi with rfl|rfl <;> omega)
 have hz1:w1.heap.size<W2.heap.size:=(eI.1 k1).1
 rw [<-hW2]
 clear hW2 xE p0 p1 p2 p3 Oo c0 c1 c2 c3 c4 zC hb1 hb0
 obtain⟨D3,Ve⟩:=bP ((if D=0 then d else D))
 obtain⟨x0,x1,x2,x3,x4⟩:W2.cell? ⟨w1.heap.size,0,none⟩=some (.bool true)/\W2.cell? ⟨w1.heap.size,1,none⟩=some (.slice ae le ne)/\W2.cell? ⟨w1.heap.size,2,none⟩=some (.slice ak lk nk)/\W2.cell? ⟨w1.heap.size,3,none⟩=some (.slice ad ld tU)/\W2.cell? ⟨w1.heap.size,4,none⟩=some (.slice ab lb o8):=by
  simp [World.cell?,k1]
 have q3:=hw2.c3
 have qlt:=hw2.lt
 have qfr:=hw2.fr
 have HW:=hdd hw2
 clear hw2
 go_upto_if 59 with (fail)
 go_cut [] (fun wx=>aa0 (Own2 pb mb) W2 wx/\(∀o,wx.cell? ⟨w1.heap.size,o,none⟩=W2.cell? ⟨w1.heap.size,o,none⟩)/\Hid (dJ wx pb mb (.slice (some ⟨nb,gL,none⟩) t.nodes.length c) t.root ((j:Int)::S) D3))
 case first=>
  by_cases g0:D=0
  ·subst g0
   rw [ar rfl]at Ve
   subst Ve
   go_wp2
   go_meet
   exact⟨(aa0.refl _ _).setCell (.inl (.inl rfl)) _,fun o=>World.cell?_setCell_other _ _ _ _ bj,hdd (HW.out.ZL _)⟩
  ·rw [ai g0]at Ve
   subst Ve
   go_wp2
   go_meet
   exact⟨aa0.refl _ _,fun o=>rfl,HW⟩
 case rest=>
  obtain⟨Ot,hsame,Ze⟩:=hcut
  have y1:=(hsame 1).trans x1
  have y2:=(hsame 2).trans x2
  have y3:=(hsame 3).trans x3
  have y4:=(hsame 4).trans x4
  have z1:=Ze.out.c1
  have z3:=Ze.out.c3
  have hb3:ah w0 wc:=Ot.below hb2 hb2.size (fun i hi=>by rcases hi with rfl|rfl <;> omega)
  have cn:=hdd (ht2.trans Ot)
  have Oh:=hdd (HE.out wc hb3)
  have HD3:=hdd Ve
  clear x0 x1 x2 x3 x4 k1 hb2 hb3 ht2 Ot hsame HE Ve q3 qlt qfr p0 p1 p2 p3 Oo c0 c1 c2 c3 c4 hnp hpb hmb
  by_cases g0:D3=d
  ·have hd:D=0\/D=d:=by
    have:=HD3.out
    by_cases h:D=0
    ·exact .inl h
    ·rw [ai h]at this;right;omega
   subst g0
   have e0:(D3 == D3)=true:=bj
   by_cases g1:lk+ld+lb=0
   ·obtain⟨rfl,rfl,rfl⟩:lk=0/\ld=0/\lb=0:=af
    by_cases g2:le<=6
    ·by_cases g3:le=0
     ·subst g3
      have Tq:be=true:=aci.out rfl
      subst Tq
      by_cases g4:(j:Int)=t.root
      ·have HR:=hdd (Ib.out ⟨hd,qC.out.2 ⟨af,af,fun _=>g4,rfl⟩⟩)
       have dr:((j:Int) == t.root)=true:=by simp [g4]
       clear g1 g2 g4 hd
       go_wp2_with ((go_at_call 114;(with_reducible refine Oh.out.mono ?_);rintro e' w4 ⟨rfl,BE⟩))
       go_ret
       rw [HR.out]
       exact tD (cn.out.trans (aa0.of BE aH)) rfl (Ze.out.turn (X:=fun _=>False) (aa0.of BE aH) (fun h=>h) (fun h=>h))
      ·have HR:=hdd (nI.out (fun h=>g4 ((qC.out.1 h.2).2.2.1 rfl)))
       have dr:((j:Int) == t.root)=false:=by simp [g4]
       clear g1 g2 g4 hd
       go_wp2
       go_ret
       rw [HR.out]
       exact aa1 cn.out rfl
     ·have g3':0<le:=af
      cases be with
      |true=>
       have HR:=hdd (Ib.out ⟨hd,qC.out.2 ⟨af,af,fun h=>absurd h g3,rfl⟩⟩)
       clear g1 hd
       go_wp2_with ((go_at_call 114;(with_reducible refine Oh.out.mono ?_);rintro e' w4 ⟨rfl,BE⟩))
       go_ret
       rw [HR.out]
       exact tD (cn.out.trans (aa0.of BE aH)) rfl (Ze.out.turn (X:=fun _=>False) (aa0.of BE aH) (fun h=>h) (fun h=>h))
      |false=>
       have HR:=hdd (nI.out (fun h=>by have:=(qC.out.1 h.2).2.2.2;cases this))
       clear g1 hd
       go_wp2_with ((go_at_call 114;(with_reducible refine Oh.out.mono ?_);rintro e' w4 ⟨rfl,BE⟩))
       go_ret
       rw [HR.out]
       exact aa1 (cn.out.trans (aa0.of BE aH)) rfl
    ·have HR:=hdd (nI.out (fun h=>g2 (qC.out.1 h.2).2.1))
     have g2':6<le:=af
     clear g1 g2 hd
     go_wp2
     go_ret
     rw [HR.out]
     exact aa1 cn.out rfl
   ·have HR:=hdd (nI.out (fun h=>g1 (qC.out.1 h.2).1))
    by_cases g5:lk=0
    ·by_cases g6:ld=0
     ·have g7:0<lb:=af
      clear g1 hd
      go_wp2
      go_ret
      rw [HR.out]
      exact aa1 cn.out rfl
     ·have g7:0<ld:=af
      clear g1 hd
      go_wp2
      go_ret
      rw [HR.out]
      exact aa1 cn.out rfl
    ·have g7:0<lk:=af
     clear g1 hd
     go_wp2
     go_ret
     rw [HR.out]
     exact aa1 cn.out rfl
  ·have HR:=hdd (nI.out (fun h=>by
    have:=HD3.out
    rcases h.1 with h0|h0
    ·rw [ar h0]at this;exact g0 this
    ·by_cases h1:D=0
     ·rw [ar h1]at this;exact g0 this
     ·rw [ai h1]at this;exact g0 (this.trans h0)))
   have e0:(D3 == d)=false:=by simp [g0]
   go_wp2
   go_ret
   rw [HR.out]
   exact aa1 cn.out rfl
end
section
set_option maxRecDepth 100000
set_option maxHeartbeats 2000000
variable {pb mb:Nat} {t:Tr} {nv:Value} {w0:World}
theorem Gj (h0:bz w0 nv t.nodes) {f:Nat} {n lo hi d:Int} {S:List Int} {D:Int} {w:World} {x:Nd} (hb0:ah w0 w) (hpb:w0.heap.size<=pb) (hmb:w0.heap.size<=mb) (hw:dJ w pb mb nv t.root S D) (hS:FB t S) (hd0:d=12-f) (hf:f<=11)
  (IH:∀(n lo hi d:Int) (S:List Int) (D:Int) (w:World),d=13-f->ah w0 w->dJ w pb mb nv t.root S D->FB t S ->
   Calls Tryd.prog 93 #[.pointer (some ⟨pb,0,none⟩), .int .i64 n, .int .i64 lo, .int .i64 hi, .int .i64 d] w (nz pb mb nv t.root (dQ t f n lo hi (S,D)) w))
  (hx:t.dh n=some x) (Q3:n∉S) (uE:x.leaf=false) :
  Calls Tryd.prog 93 #[.pointer (some ⟨pb,0,none⟩), .int .i64 n, .int .i64 lo, .int .i64 hi, .int .i64 d] w (nz pb mb nv t.root (dQ t (f+1) n lo hi (S,D)) w):=by
 have Mx:qw x lo hi->dQ t (f+1) n lo hi (S,D)=ni (fun k a b s=>dQ t f k a b s) x lo hi x.kids 0 (n::S,D):=fun h=>DG hx Q3 uE h
 have hno:¬qw x lo hi->dQ t (f+1) n lo hi (S,D)=none:=fun h=>AL hx uE h
 have hS1:FB t (n::S):=hS.cons Q3 hx
 obtain⟨hn0,GU,xE⟩:=uY hx
 obtain⟨j,hj⟩:∃j:Nat,n=j:=⟨n.toNat,af⟩
 subst hj
 rw [Int.toNat_natCast]at GU xE
 have hd1:1<=d:=af
 have hd2:d<=12:=af
 obtain⟨nb,gL,c,ev,kv,dv,bv,rfl,hnb,hE,hK,hD,hB,c0,c1,c2,c3,c4⟩:=pP h0 hb0 xE
 have hlen:=h0.len.2
 obtain⟨ae,ne,rfl⟩:=hE.isSlice
 obtain⟨ak,nk,rfl⟩:=hK.isSlice
 obtain⟨ad,tU,rfl⟩:=hD.isSlice
 obtain⟨ab,o8,rfl⟩:=hB.isSlice
 obtain⟨LV,JF,p0,p1,p2,p3,Oo,ey⟩:=hw
 have hbz:=hb0.size
 have l1:=hE.len aW
 have l2:=hK.len aW
 have l3:=hD.len aW
 have l4:=hB.len aW
 have hSl:=hS.le
 rw [uE]at c0
 have aaG:=ey.lt
 have yB:nb≠mb:=af
 have hnp:nb≠pb:=af
 have xF:=ey.look (n:=(j:Int)) (by unfold i64;omega)
 rw [show decide ((j:Int)∈S)=false by simp [Q3]]at xF
 have hkey:keyOf Tryd.prog 3 (.int .i64 (j:Int))=some (.int .i64 (j:Int)):=keyOf_int_mk Tryd.underlying3 (wf_i64 (by unfold i64;omega))
 have HE:=hdd fun w' (hb:ah w0 w')=>zg (lo:=lo) (hi:=hi) (hB.below hb aH)
 have qC:=hdd (JY (x:=x) (lo:=lo) (hi:=hi))
 have Ib:=hdd Mx
 have nI:=hdd hno
 have UC:=hdd IH
 have Yi:=hdd hd0
 have yl:=hdd hS1
 have HKEY:=hdd fun w' (hb:ah w0 w') (i:Nat) (y:Int) (hy:x.keys[i]?=some y)=>gy.get (hK.below hb aH) hy
 have yq:=hdd fun w' (hb:ah w0 w') (i:Nat) (y:Int) (hy:x.kids[i]?=some y)=>gy.get (hD.below hb aH) hy
 clear h0 hE hK hD hB hx hn0 Q3 Mx hno uE hd0 hS hS1 IH
 obtain⟨lk,hlk⟩:=bt (x.keys.length)
 obtain⟨ld,Q8⟩:=bt (x.kids.length)
 have Od:=hdd hlk
 have X5:=hdd Q8
 clear hlk Q8
 generalize x.aF.length=le at *
 generalize x.buf.length=lb at *
 generalize qu x.buf lo hi=be at *
 rw [Od.out]at c2 l2 qC
 rw [X5.out]at c3 l3 qC
 go_enter Tryd.func93,Tryd.ntmps93
 go_upto_region 4 with (first|(at_mapUpdate;refine wpList_mapUpdate_own _ rfl _ _ _ 145 rfl 3 4 Tryd.zu Tryd.underlying145 _ mb S.length (qO S) rfl ey (by unfold maxLen;omega) _ _ (.int .i64 (j:Int)) rfl rfl hkey (.lit (.bool true)) [] (plainElem_bool Tryd.underlying4 true) ?_;intro w1 hown1 hgrow1))
 have ht1:aa0 (Own2 pb mb) w w1:=(aa0.refl _ _).grown hgrow1 (fun k hk=>by cases hk;exact .inl (.inr rfl))
 have zC:jx w1 mb ((j:Int)::S):=jx.put hown1 rfl
 have gz:w.heap.size<=w1.heap.size:=hgrow1.size
 have gc:∀b,b≠mb->b<w.heap.size->∀o,w1.cell? ⟨b,o,none⟩=w.cell? ⟨b,o,none⟩:=fun b h1 h2 o=>World.cell?_of_block (hgrow1.block b h2 (fun e=>h1 (cY e.symm).symm))
 have gf:∀b,b≠mb->b<w.heap.size->∀o,w1.frozen? ⟨b,o,none⟩=w.frozen? ⟨b,o,none⟩:=fun b h1 h2 o=>World.frozen?_of_block (hgrow1.block b h2 (fun e=>h1 (cY e.symm).symm))
 have zI:nb<w.heap.size:=af
 replace p0:=(gc pb JF LV 0).trans p0
 replace p1:=(gc pb JF LV 1).trans p1
 replace p2:=(gc pb JF LV 2).trans p2
 replace p3:=(gc pb JF LV 3).trans p3
 replace Oo:=fun o=>(gf pb JF LV o).trans (Oo o)
 replace c0:=(gc nb yB zI _).trans c0
 replace c1:=(gc nb yB zI _).trans c1
 replace c2:=(gc nb yB zI _).trans c2
 replace c3:=(gc nb yB zI _).trans c3
 replace c4:=(gc nb yB zI _).trans c4
 have Sa:pb<w1.heap.size:=af
 clear gc gf hgrow1 hown1 xF ey hkey
 have hb1:ah w0 w1:=ht1.below hb0 hbz (fun i hi=>by rcases hi with rfl|rfl <;> omega)
 go_upto_region 5 with (fail)
 obtain⟨W2,hW2⟩:=bP (w1.alloc (.cells #[.bool false, .slice ae le ne, .slice ak lk nk, .slice ad ld tU, .slice ab lb o8] 119))
 have SS:aa0 (fun _=>False) w1 W2:=by rw [hW2];exact(aa0.refl _ _).alloc _
 have k1:W2.heap[w1.heap.size]?=some (.cells #[.bool false, .slice ae le ne, .slice ak lk nk, .slice ad ld tU, .slice ab lb o8] 119):=by
  rw [hW2];exact aj _ _ rfl
 have hw2:dJ W2 pb mb (.slice (some ⟨nb,gL,none⟩) t.nodes.length c) t.root ((j:Int)::S) D:=
  (⟨Sa,JF,p0,p1,p2,p3,Oo,zC⟩:dJ w1 pb mb _ t.root ((j:Int)::S) D).turn SS (fun h=>h) (fun h=>h)
 have ht2:aa0 (Own2 pb mb) w W2:=ht1.trans (SS.mono (fun _ _ h=>h.elim))
 have hb2:ah w0 W2:=ht2.below hb0 hbz (fun i hi=>by rcases hi with rfl|rfl <;> omega)
 have hz1:w1.heap.size<W2.heap.size:=(eI.1 k1).1
 rw [<-hW2]
 clear hW2 SS p0 p1 p2 p3 Oo c0 c1 c2 c3 c4 zC hb1 hb0 GU xE
 obtain⟨x0,x1,x2,x3,x4⟩:W2.cell? ⟨w1.heap.size,0,none⟩=some (.bool false)/\W2.cell? ⟨w1.heap.size,1,none⟩=some (.slice ae le ne)/\W2.cell? ⟨w1.heap.size,2,none⟩=some (.slice ak lk nk)/\W2.cell? ⟨w1.heap.size,3,none⟩=some (.slice ad ld tU)/\W2.cell? ⟨w1.heap.size,4,none⟩=some (.slice ab lb o8):=by
  simp [World.cell?,k1]
 have HW:=hdd hw2
 have bf:=hdd ht2
 have Oh:=hdd (HE.out W2 hb2)
 have hwl:IntKind.i64.wrap ((ld:Int)-1)=(ld:Int)-1:=IntWalk.i64_in _ af
 clear hw2 HE
 by_cases hok:qw x lo hi
 ·have HR:=hdd (Ib.out hok)
  obtain⟨e1,e2,e3,e4,e5,e6⟩:=qC.out.1 hok
  subst e1 e6
  have d3:((lk:Int) != (ld:Int)-1)=false:=by simp;omega
  have e4a:lk+1<=ld:=af
  have e4b:ld<=lk+1:=af
  clear hok e4
  go_upto_region 11 with ((go_at_call 114;(with_reducible refine Oh.out.mono ?_);rintro e' w4 ⟨rfl,BE⟩))
  have k4:w4.heap[w1.heap.size]?=_:=(BE.block _ hz1).trans k1
  have YK:w1.heap.size<w4.heap.size:=(eI.1 k4).1
  have U1:aa0 (fun _=>False) W2 w4:=aa0.of BE aH
  have hb4:ah w0 w4:=Below.trans' hb2 BE hb2.size
  have HW4:=hdd (HW.out.turn U1 (fun h=>h) (fun h=>h))
  have HC:=hdd fun wr (ht:aa0 (Own2 pb mb) w4 wr)=>(by
   have b1:wr.heap[w1.heap.size]?=_:=(ht.block _ YK (fun h=>by rcases h with h|h <;> omega)).trans k4
   simp [World.cell?,b1] :
   wr.cell? ⟨w1.heap.size,2,none⟩=some (.slice ak lk nk)/\wr.cell? ⟨w1.heap.size,3,none⟩=some (.slice ad ld tU))
  have HB:=hdd fun wr (ht:aa0 (Own2 pb mb) w4 wr)=>(aa0.below (B:=w0.heap.size) ht hb4 hb4.size (fun i hi=>by rcases hi with rfl|rfl <;> omega):ah w0 wr)
  have HT:=hdd fun wr (ht:aa0 (Own2 pb mb) w4 wr)=>((bf.out.trans (U1.mono (fun _ _ h=>h.elim))).trans ht:aa0 (Own2 pb mb) w wr)
  clear x0 x1 x2 x3 x4 k1 k4 hb2 hb4 ht1 ht2 U1 BE Oh nI Ib qC HW bf hwl d3
  obtain⟨u2,u3⟩:=HC.out w4 (aa0.refl _ _)
  go_wp2_with fail
  clear u2 u3
  go_loopg [159] ld (fun g i wr=>∃(k:Nat) (S':List Int) (D':Int),k<=ld/\g=ld-k/\i = .int .i64 k/\Hid (FB t S') /\
   Hid (dQ t (f+1) (j:Int) lo hi (S,D)=ni (fun k a b s=>dQ t f k a b s) x lo hi (x.kids.drop k) k (S',D'))/\aa0 (Own2 pb mb) w4 wr/\Hid (dJ wr pb mb (.slice (some ⟨nb,gL,none⟩) t.nodes.length c) t.root S' D'))
  case atStart=>exact⟨0,(j:Int)::S,D,jd _,rfl,rfl,yl,hdd (by rw [HR.out];rfl),aa0.refl _ _,HW4⟩
  case round=>
   obtain⟨k,S',D',hk,rfl,rfl,HS',XP,ht,HW'⟩:=hrel
   obtain⟨p2,p3⟩:=HC.out _ ht
   by_cases hlt':k<ld
   ·obtain⟨K,hK⟩:∃K,x.kids[k]?=some K:=⟨x.kids[k]'(by rw [X5.out];exact hlt'),bj⟩
    obtain⟨kb,AO,VS,ke,hkb,hkc⟩:=yq.out _ (HB.out _ ht) k K hK
    injection ke with VR VQ VP
    subst VR VP
    obtain⟨F,hF⟩:=bt (x.from lo k)
    obtain⟨T,hT⟩:=bt (x.upto hi k)
    have rL:=hdd (XP.out.trans (Gx (by rw [X5.out];exact hlt')))
    have wo:x.kids[k]'(by rw [X5.out];exact hlt')=K:=(gJ.1 hK).2
    rw [wo,hF,hT]at rL
    have agU:lk<=ld:=af
    have yb:Hid ((k<lk->x.keys[k]?=some T)/\(¬k<lk->T=hi)):=hdd ⟨fun h=>by
      have hlk:k<x.keys.length:=by have:=Od.out;omega
      rw [<-hT];simp [Nd.upto,hlk],fun h=>by
      have hlk:¬k<x.keys.length:=by have:=Od.out;omega
      rw [<-hT];simp [Nd.upto,hlk]⟩
    have HFR:Hid ((0<k->x.keys[k-1]?=some F)/\(k=0->F=lo)):=hdd ⟨fun h=>by
      have hlk:k-1<x.keys.length:=by have:=Od.out;omega
      have im:k≠0:=af
      rw [<-hF];simp [Nd.from,im,hlk],fun h=>by
      rw [<-hF];simp [Nd.from,h]⟩
    clear hK hT hF wo
    go_upto_if 167 with (fail)
    go_cut [14] (fun v wx=>v = .int .i64 F/\wr=wx)
    case first=>
     by_cases hk2:0<k
     ·obtain⟨b2,L6,cap2,e2,wj,hc2⟩:=HKEY.out _ (HB.out _ ht) (k-1) F (HFR.out.1 hk2)
      injection e2 with f1 f2 f3
      subst f1 f3
      have jS:=fun w=>lQ (ab:=b2) (aV:=L6) (n:=lk) (cap:=nk) (show (k:Int)-1=((k-1:Nat):Int) by omega) af w
      have hw1:IntKind.i64.wrap ((k:Int)-1)=(k:Int)-1:=IntWalk.i64_in _ af
      rw [Od.out]at *
      clear f2 VQ
      go_wp2
      go_meet
      exact⟨rfl,rfl⟩
     ·obtain rfl:k=0:=af
      have yc:=hdd (HFR.out.2 rfl)
      clear VQ
      go_wp2
      go_meet
      exact⟨by rw [yc.out],rfl⟩
    case rest=>
     obtain⟨rfl,rfl⟩:=hcut
     go_upto_if 178 with (fail)
     go_cut [15] (fun v wx=>v = .int .i64 T/\wr=wx)
     case first=>
      by_cases hk2:k<lk
      ·obtain⟨b2,L6,cap2,e2,wj,hc2⟩:=HKEY.out _ (HB.out _ ht) k T (yb.out.1 hk2)
       injection e2 with f1 f2 f3
       subst f1 f3
       clear f2 VQ
       go_wp2
       go_meet
       exact⟨rfl,rfl⟩
      ·have yc:=hdd (yb.out.2 hk2)
       clear VQ
       go_wp2
       go_meet
       exact⟨by rw [yc.out],rfl⟩
     case rest=>
      obtain⟨rfl,rfl⟩:=hcut
      clear p2 p3 VQ
      by_cases g1:F<T/\lo<=F/\T<=hi
      ·have HJ:=hdd (show d+1=13-f by have:=Yi.out;omega)
       have hwd:IntKind.i64.wrap (d+1)=d+1:=IntWalk.i64_in _ af
       have lg:=hdd (UC.out K F T (d+1) S' D' wr HJ.out (HB.out _ ht) HW'.out HS'.out)
       obtain⟨a1,a2,a3⟩:=g1
       cases hR:dQ t f K F T (S',D') with
       |none=>
        have vF:=hdd (show dQ t (f+1) (j:Int) lo hi (S,D)=none by rw [rL.out,ar ⟨a1,a2,a3⟩];simp only [hR])
        rw [hR]at lg
        clear hR
        go_wp2_with ((go_at_call 93;(with_reducible refine lg.out.mono ?_);rintro e w5 ⟨qq,rfl⟩))
        go_ret
        rw [vF.out]
        exact aa1 ((HT.out _ ht).trans qq) rfl
       |some p=>
        obtain⟨S2,D2⟩:=p
        have OM:=hdd (show dQ t (f+1) (j:Int) lo hi (S,D)=ni (fun k a b s=>dQ t f k a b s) x lo hi (x.kids.drop (k+1)) (k+1) (S2,D2) by rw [rL.out,ar ⟨a1,a2,a3⟩];simp only [hR])
        have Ul:=hdd (show FB t S2 from DF f K F T (S',D') (S2,D2) HS'.out hR)
        rw [hR]at lg
        clear hR
        go_wp2_with ((go_at_call 93;(with_reducible refine lg.out.mono ?_);rintro e w5 ⟨qq,rfl,qx⟩))
        go_roundg (ld-(k+1))
        case measure=>omega
        case rel=>exact⟨k+1,S2,D2,af,rfl,by go_num,Ul,OM,ht.trans qq,hdd qx⟩
      ·have vF:=hdd (show dQ t (f+1) (j:Int) lo hi (S,D)=none by rw [rL.out,ai g1])
       by_cases a1:F<T
       ·by_cases a2:lo<=F
        ·have a3:hi<T:=af
         clear g1
         go_wp2
         go_ret
         rw [vF.out]
         exact aa1 (HT.out _ ht) rfl
        ·have a2':F<lo:=af
         clear g1
         go_wp2
         go_ret
         rw [vF.out]
         exact aa1 (HT.out _ ht) rfl
       ·have a1':T<=F:=af
        clear g1
        go_wp2
        go_ret
        rw [vF.out]
        exact aa1 (HT.out _ ht) rfl
   ·have Ic:=hdd (XP.out.trans (JT (by rw [X5.out];omega)))
    go_wp2
    go_ret
    rw [Ic.out]
    exact tD (HT.out _ ht) rfl HW'.out
 ·have HR:=hdd (nI.out hok)
  have GZ:=qC.out
  by_cases g1:le=0
  ·subst g1
   by_cases g2:ld<=4
   ·by_cases g2':2<=ld
    ·by_cases g3:lk+1=ld
     ·have d3:((lk:Int) != (ld:Int)-1)=false:=by simp;omega
      by_cases g4:lb<=8
      ·have Tq:be=false:=by
        cases be with
        |false=>rfl
        |true=>exact absurd (GZ.2 ⟨rfl,g2',g2,g3,g4,rfl⟩) hok
       subst Tq
       clear hok GZ g3 qC
       go_wp2_with ((go_at_call 114;(with_reducible refine Oh.out.mono ?_);rintro e' w4 ⟨rfl,BE⟩))
       go_ret
       rw [HR.out]
       exact aa1 (bf.out.trans (aa0.of BE aH)) rfl
      ·have g4':8<lb:=af
       clear hok GZ g3 qC
       go_wp2
       go_ret
       rw [HR.out]
       exact aa1 bf.out rfl
     ·have d3:((lk:Int) != (ld:Int)-1)=true:=by simp;omega
      clear hok GZ g3 qC
      go_wp2
      go_ret
      rw [HR.out]
      exact aa1 bf.out rfl
    ·have ahc:ld<2:=af
     clear hok GZ qC
     go_wp2
     go_ret
     rw [HR.out]
     exact aa1 bf.out rfl
   ·have g2':4<ld:=af
    clear hok GZ qC
    go_wp2
    go_ret
    rw [HR.out]
    exact aa1 bf.out rfl
  ·have g1':0<le:=af
   clear hok GZ qC
   go_wp2
   go_ret
   rw [HR.out]
   exact aa1 bf.out rfl
theorem Mc (h0:bz w0 nv t.nodes) (hpb:w0.heap.size<=pb) (hmb:w0.heap.size<=mb):∀(f:Nat),f<=12->∀(n lo hi d:Int) (S:List Int) (D:Int) (w:World),d=13-f->ah w0 w->dJ w pb mb nv t.root S D->FB t S ->
  Calls Tryd.prog 93 #[.pointer (some ⟨pb,0,none⟩), .int .i64 n, .int .i64 lo, .int .i64 hi, .int .i64 d] w (nz pb mb nv t.root (dQ t f n lo hi (S,D)) w):=by
 intro f
 induction f with
 |zero=>intro _ n lo hi d S D w hd hb hw hS;exact zm h0 hw hd af (.inl rfl)
 |succ f ih=>
  intro hf n lo hi d S D w hd hb hw hS
  cases hx:t.dh n with
  |none=>exact zm h0 hw hd hf (.inr (.inl hx))
  |some x=>
   by_cases hn:n∈S
   ·exact zm h0 hw hd hf (.inr (.inr hn))
   ·cases hl:x.leaf with
    |true=>exact JK h0 hb hpb hmb hw hS af af hx hn hl
    |false=>exact Gj h0 hb hpb hmb hw hS af af (fun n lo hi d S D w=>ih af n lo hi d S D w) hx hn hl
end
section
set_option maxRecDepth 100000
set_option maxHeartbeats 1000000
theorem jt {v:Value} {t:Tr} {w:World} (h:bM w v t) :
  Calls Tryd.prog 73 #[v] w fun e w'=>e = .returned (.int .i64 (ax t))/\ah w w':=by
 obtain⟨nv,rfl,hn⟩:=h
 rw [<-Ku]
 obtain⟨⟨ao,cap,rfl⟩,hlen⟩:=hn.len
 by_cases hbig:2000<t.nodes.length
 ·have HR:=hdd (show tM t=1 from ar hbig)
  go_enter Tryd.func73,Tryd.ntmps73
  go_wp2
  go_ret
  exact⟨gZ HR.out.symm,(by repeat (first|exact aI _ _|assumption|refine cJ ?_ _|refine Below.drew ?_|refine Below.alloc ?_ (by first|omega|(simp;done)|(simp;omega)) _|refine Below.setCell ?_ (by first|omega|(simp;done)|(simp;omega)) _))⟩
 ·have hsm:t.nodes.length<=2000:=af
  have HR:=hdd (show tM t=_ from ai hbig)
  have hmm:=@run_makeMap Tryd.prog
  clear hbig
  go_enter Tryd.func73,Tryd.ntmps73
  go_upto_region 4 with (fail)
  obtain⟨W3,hW3⟩:=bP (((w.alloc (.cells #[.slice ao t.nodes.length cap, .int .i64 t.root] 32)).alloc (.map #[] 0)).alloc (.cells #[.slice ao t.nodes.length cap, .int .i64 t.root, .map (some (w.heap.size+1)), .int .i64 0] 147))
  have hb3:ah w W3:=by rw [hW3];exact(by repeat (first|exact aI _ _|assumption|refine cJ ?_ _|refine Below.drew ?_|refine Below.alloc ?_ (by first|omega|(simp;done)|(simp;omega)) _|refine Below.setCell ?_ (by first|omega|(simp;done)|(simp;omega)) _))
  have hz3:W3.heap.size=w.heap.size+1+1+1:=by rw [hW3];simp
  have k0:W3.heap[w.heap.size]?=some (.cells #[.slice ao t.nodes.length cap, .int .i64 t.root] 32):=by
   rw [hW3,kW _ _ _ (by simp;omega),kW _ _ _ bj];exact aj _ _ rfl
  have k2:W3.heap[w.heap.size+1+1]?=some (.cells #[.slice ao t.nodes.length cap, .int .i64 t.root, .map (some (w.heap.size+1)), .int .i64 0] 147):=by
   rw [hW3];exact aj _ _ bj
  have ey:jx W3 (w.heap.size+1) []:=by
   have h1:=World.ownsMap_made (H:=Unit) (w.alloc (.cells #[.slice ao t.nodes.length cap, .int .i64 t.root] 32)) Tryd.prog 3 (plainElem Tryd.prog 4)
   rw [show (w.alloc (.cells #[.slice ao t.nodes.length cap, .int .i64 t.root] 32)).heap.size=w.heap.size+1 by simp]at h1
   have h2:jx _ (w.heap.size+1) []:=h1
   rw [hW3]
   exact h2.turn (X:=fun _=>False) ((aa0.refl _ _).alloc _) (fun h=>h)
  have hw3:dJ W3 (w.heap.size+1+1) (w.heap.size+1) (.slice ao t.nodes.length cap) t.root [] 0:=
   ⟨af,af,by simp [World.cell?,k2],by simp [World.cell?,k2],by simp [World.cell?,k2],by simp [World.cell?,k2],fun o=>by simp [World.frozen?,k2],ey⟩
  have q1:W3.cell? ⟨w.heap.size,1,none⟩=some (.int .i64 t.root):=by simp [World.cell?,k0]
  have lg:=hdd (Mc hn (pb:=w.heap.size+1+1) (mb:=w.heap.size+1) af af 12 aH t.root 0 1099511627776 1 [] 0 W3.drew aW hb3.drew (hw3.turn (X:=fun _=>False) (aa0.refl _ _).drew (fun h=>h) (fun h=>h)) ⟨List.nodup_nil,fun y h=>by cases h⟩)
  have HB:=hdd fun w5 (ht:aa0 (Own2 (w.heap.size+1+1) (w.heap.size+1)) W3.drew w5)=>(ht.below hb3.drew hb3.size (fun i hi=>by rcases hi with rfl|rfl <;> omega):ah w w5)
  have Vy:=hdd fun w5 (ht:aa0 (Own2 (w.heap.size+1+1) (w.heap.size+1)) W3.drew w5)=>(by
   have b0:w5.heap[w.heap.size]?=_:=(ht.block _ (by show w.heap.size<W3.heap.size;omega) (fun h=>by rcases h with h|h <;> omega)).trans k0
   simp [World.cell?,b0]:w5.cell? ⟨w.heap.size,0,none⟩=some (.slice ao t.nodes.length cap)/\w5.cell? ⟨w.heap.size,1,none⟩=some (.int .i64 t.root))
  have hs0:W3.drew.cell? ⟨w.heap.size,0,none⟩=some (.slice ao t.nodes.length cap)/\W3.drew.cell? ⟨w.heap.size,1,none⟩=some (.int .i64 t.root)/\W3.drew.cell? ⟨w.heap.size+1+1,2,none⟩=some (.map (some (w.heap.size+1))):=by
   obtain⟨a,b⟩:=Vy.out _ (aa0.refl _ _)
   exact⟨a,b,hw3.c2⟩
  rw [<-hW3]
  clear hW3 k0 k2 ey hw3 hmm hn
  have nA:=hdd fun S D=>DF (t:=t) 12 t.root 0 1099511627776 ([],0) (S,D) ⟨List.nodup_nil,fun y h=>by cases h⟩
  cases hr:dQ t 12 t.root 0 1099511627776 ([],0) with
  |none=>
   rw [hr]at lg
   have XR:=hdd (show tM t=7 by rw [HR.out,hr])
   clear hr
   refine fQ 3 _ rfl bT bT ?_
   (simp only [List.take_succ_cons,List.take_zero,List.drop_succ_cons,List.drop_zero];(repeat ((with_reducible refine wpStill_step (fun K hK=>?_));go_simp;(with_reducible refine hK _ ?_);clear hK K));(with_reducible refine wpStill_nil ?_))
   intro K hK
   go_simp
   (with_reducible refine lg.out.mono ?_);rintro e w5 ⟨qq,rfl⟩
   go_simp
   refine hK _ _ ?_
   clear hK K
   ((repeat ((with_reducible refine wpStill_step (fun K hK=>?_));go_simp;(with_reducible refine hK _ ?_);clear hK K));(with_reducible refine wpStill_nil ?_))
   all_goals
    go_wp2
    go_ret
    exact⟨gZ XR.out.symm,HB.out _ qq⟩
  |some p=>
   obtain⟨S,D⟩:=p
   have hok:=nA.out S D hr
   rw [hr]at lg
   by_cases hl:S.length=t.nodes.length
   ·have XR:=hdd (show tM t=0 by rw [HR.out,hr];exact ar hl)
    have hl':((S.length:Int) != (t.nodes.length:Int))=false:=by simp [hl]
    have HN:=hdd hok.1
    clear hr hok hl
    refine fQ 3 _ rfl bT bT ?_
    (simp only [List.take_succ_cons,List.take_zero,List.drop_succ_cons,List.drop_zero];(repeat ((with_reducible refine wpStill_step (fun K hK=>?_));go_simp;(with_reducible refine hK _ ?_);clear hK K));(with_reducible refine wpStill_nil ?_))
    intro K hK
    go_simp
    (with_reducible refine lg.out.mono ?_);rintro e w5 ⟨qq,rfl,qx⟩
    have c2:=qx.c2
    obtain⟨c0,-⟩:=Vy.out _ qq
    have U8:=qx.set.len HN.out
    go_simp
    refine hK _ _ ?_
    clear hK K
    ((repeat ((with_reducible refine wpStill_step (fun K hK=>?_));go_simp;(with_reducible refine hK _ ?_);clear hK K));(with_reducible refine wpStill_nil ?_))
    all_goals
     go_wp2
     go_ret
     exact⟨gZ XR.out.symm,HB.out _ qq⟩
   ·have XR:=hdd (show tM t=7 by rw [HR.out,hr];exact ai hl)
    have hl':((S.length:Int) != (t.nodes.length:Int))=true:=by simp;omega
    have HN:=hdd hok.1
    clear hr hok hl
    refine fQ 3 _ rfl bT bT ?_
    (simp only [List.take_succ_cons,List.take_zero,List.drop_succ_cons,List.drop_zero];(repeat ((with_reducible refine wpStill_step (fun K hK=>?_));go_simp;(with_reducible refine hK _ ?_);clear hK K));(with_reducible refine wpStill_nil ?_))
    intro K hK
    go_simp
    (with_reducible refine lg.out.mono ?_);rintro e w5 ⟨qq,rfl,qx⟩
    have c2:=qx.c2
    obtain⟨c0,-⟩:=Vy.out _ qq
    have U8:=qx.set.len HN.out
    go_simp
    refine hK _ _ ?_
    clear hK K
    ((repeat ((with_reducible refine wpStill_step (fun K hK=>?_));go_simp;(with_reducible refine hK _ ?_);clear hK K));(with_reducible refine wpStill_nil ?_))
    all_goals
     go_wp2
     go_ret
     exact⟨gZ XR.out.symm,HB.out _ qq⟩
end
end Go.Proofs.YtmljjfhgciaceaaDoor
