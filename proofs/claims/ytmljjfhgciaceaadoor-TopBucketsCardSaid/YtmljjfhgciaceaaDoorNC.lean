/- Texts of mine that come as one: NodeA NodeB NodeC Check. -/
import Derived.Test.YtmljjfhgciaceaaDoorHd
import Derived.Test.YtmljjfhgciaceaaDoorPA
import Derived.Test.YtmljjfhgciaceaaDoorSR
import Derived.Test.YtmljjfhgciaceaaDoorSX
import Derived.Deep.CutBlock
import Derived.Test.YtmljjfhgciaceaaDoorSO
import Derived.Carry
import Derived.Deep.RegionHeld3
namespace Go.Proofs.YtmljjfhgciaceaaDoor
open Go.RowKit
section
set_option maxRecDepth 100000
set_option maxHeartbeats 1000000
variable {e:Ending} {D:Int} {S:List Int} {pb mb:Nat} {nv:Value} {w w':World}
structure dL (w:World) (pb mb:Nat) (nv:Value) (root:Int) (S:List Int) (D:Int):Prop where
 lt:pb<w.heap.size
 ne:pb≠mb
 c0:w.cell? ⟨pb,0,none⟩=some nv
 c1:w.cell? ⟨pb,1,none⟩=some (.int .i64 root)
 c2:w.cell? ⟨pb,2,none⟩=some (.map (some mb))
 c3:w.cell? ⟨pb,3,none⟩=some (.int .i64 D)
 fr:∀o,w.frozen? ⟨pb,o,none⟩=false
 set:ju w mb S
def Own2 (pb mb:Nat) (b:Nat):Prop:=b=pb\/b=mb
theorem dL.turn {root:Int} (h:dL w pb mb nv root S D) {X:Nat->Prop} (ht:aw X w w') (hp:¬X pb) (hm:¬X mb):dL w' pb mb nv root S D:=
 ⟨mE h.lt ht.size,h.ne,(ht.cell h.lt hp 0).trans h.c0,(ht.cell h.lt hp 1).trans h.c1,(ht.cell h.lt hp 2).trans h.c2,(ht.cell h.lt hp 3).trans h.c3,fun o=>(ht.frozen h.lt hp o).trans (h.fr o),h.set.turn ht hm⟩
def nC (pb mb:Nat) (nv:Value) (root:Int) (r:Option (List Int×Int)) (w:World) (e:Ending) (w':World):Prop:=
 aw (Own2 pb mb) w w'/\(match r with|none=>e = .returned (.bool false)|some (S',D')=>e = .returned (.bool true)/\dL w' pb mb nv root S' D')
theorem bY {root:Int} (ht:aw (Own2 pb mb) w w') (he:e = .returned (.bool false)):nC pb mb nv root none w e w':=⟨ht,he⟩
theorem tq {root:Int} (ht:aw (Own2 pb mb) w w') (he:e = .returned (.bool true)) (hw:dL w' pb mb nv root S D):nC pb mb nv root (some (S,D)) w e w':=⟨ht,he,hw⟩
theorem yO {t:Tr} {w0:World} (h0:bu w0 nv t.nodes) {f:Nat} {n lo hi d:Int} (hw:dL w pb mb nv t.root S D) (hd:d=13-f) (hf:f<=12) (hbad:f=0\/t.dn n=none\/n∈S) :
  Calls Tryd.prog 93 #[.pointer (some ⟨pb,0,none⟩), .int .i64 n, .int .i64 lo, .int .i64 hi, .int .i64 d] w (nC pb mb nv t.root (dR t f n lo hi (S,D)) w):=by
 have hr:dR t f n lo hi (S,D)=none:=by
  cases f with
  |zero=>rfl
  |succ f=>
   rcases hbad with h|h|h
   ·cases h
   ·exact yP h
   ·cases hx:t.dn n with
    |none=>exact yP hx
    |some x=>exact FZ hx h
 rw [hr]
 obtain⟨⟨ao,c,rfl⟩,hlen⟩:=h0.len
 obtain⟨lt,ne,c0,c1,c2,c3,fr,eD⟩:=hw
 by_cases hin:t.dn n=none
 ·have hn:=NB hin
  clear hr hbad hd hin h0 fr eD
  by_cases hn0:n<0
  ·clear hn
   go_enter Tryd.func93,Tryd.ntmps93
   go_wp2
   go_ret
   exact bY (aw.refl _ _) rfl
  ·have Gy:(t.nodes.length:Int)<=n:=af
   clear hn
   go_enter Tryd.func93,Tryd.ntmps93
   go_wp2
   go_ret
   exact bY (aw.refl _ _) rfl
 ·obtain⟨x,hx⟩:=Option.ne_none_iff_exists'.1 hin
  obtain⟨hn0,Gy,-⟩:=vd hx
  have xn:n<(t.nodes.length:Int):=af
  have xo:=eD.look (n:=n) (by unfold i64;omega)
  by_cases hs:n∈S
  ·have hs':decide (n∈S)=true:=by simp [hs]
   rw [hs']at xo
   clear hr hbad hd hin h0 fr eD hs hs' hx
   go_enter Tryd.func93,Tryd.ntmps93
   go_wp2
   go_ret
   exact bY (aw.refl _ _) rfl
  ·obtain rfl:f=0:=by rcases hbad with h|h|h;exact h;exact absurd h hin;exact absurd h hs
   have hs':decide (n∈S)=false:=by simp [hs]
   rw [hs']at xo
   have d2:(12:Int)<d:=af
   clear hr hbad hd hin h0 fr eD hs hs' hx
   go_enter Tryd.func93,Tryd.ntmps93
   go_wp2
   go_ret
   exact bY (aw.refl _ _) rfl
end
open Go.Maps
section
set_option maxRecDepth 100000
set_option maxHeartbeats 2000000
variable {n D:Int} {S:List Int} {mb pb:Nat} {nv:Value} {w:World}
theorem ju.put {w1:World} {k:Nat} (h:w1.ownsMap (H:=Unit) Tryd.prog 3 (plainElem Tryd.prog 4) mb k ((qL S).put (.int .i64 n) (.lit (.bool true)))) (hk:k=S.length+1):ju w1 mb (n::S):=by
 subst hk;exact h
theorem dL.ZT {root:Int} (h:dL w pb mb nv root S D) (d:Int):dL (w.setCell ⟨pb,3,none⟩ (.int .i64 d)) pb mb nv root S d:=by
 have ht:aw (·=pb) w (w.setCell ⟨pb,3,none⟩ (.int .i64 d)):=aw.setCell (X:=(·=pb)) (aw.refl _ _) (.inl rfl) _
 refine⟨by rw [ay];exact h.lt,h.ne,?_,?_,?_,?_,fun o=>?_,h.set.turn ht h.ne.symm⟩
 ·rw [World.cell?_setCell_other _ _ _ _ bq];exact h.c0
 ·rw [World.cell?_setCell_other _ _ _ _ bq];exact h.c1
 ·rw [World.cell?_setCell_other _ _ _ _ bq];exact h.c2
 ·exact World.cell?_setCell_same' _ _ _ (by rw [h.c3];rfl)
 ·rw [<-h.fr o];simp [World.frozen?,World.setCell,Array.getElem?_modify]
  cases w.heap[pb]? with
  |none=>rfl
  |some o=>cases o <;> rfl
theorem JD {t:Tr} {w0:World} (h0:bu w0 nv t.nodes) {f:Nat} {lo hi d:Int} {x:Nd} (hb0:ah w0 w) (hpb:w0.heap.size<=pb) (hmb:w0.heap.size<=mb) (hw:dL w pb mb nv t.root S D) (hS:Fb t S) (hd0:d=12-f) (hf:f<=11) (hx:t.dn n=some x) (QX:n∉S) (uF:x.leaf=true) :
  Calls Tryd.prog 93 #[.pointer (some ⟨pb,0,none⟩), .int .i64 n, .int .i64 lo, .int .i64 hi, .int .i64 d] w (nC pb mb nv t.root (dR t (f+1) n lo hi (S,D)) w):=by
 have Mp:(D=0\/D=d)/\mG t n x lo hi->dR t (f+1) n lo hi (S,D)=some (n::S,d):=fun h=>by rw [F3 hx QX uF (by rw [<-hd0];exact h.1) h.2,hd0]
 have hno:¬((D=0\/D=d)/\mG t n x lo hi)->dR t (f+1) n lo hi (S,D)=none:=fun h=>BQ hx uF (by rw [<-hd0];exact h)
 obtain⟨hn0,Gy,xn⟩:=vd hx
 obtain⟨j,hj⟩:∃j:Nat,n=j:=⟨n.toNat,af⟩
 subst hj
 rw [Int.toNat_natCast]at Gy xn
 have hd1:1<=d:=af
 have hd2:d<=12:=af
 obtain⟨nb,gL,c,ev,kv,dv,bv,rfl,hnb,hE,hK,hD,hB,c0,c1,c2,c3,c4⟩:=pQ h0 hb0 xn
 have hlen:=h0.len.2
 obtain⟨ae,ne,rfl⟩:=hE.isSlice
 obtain⟨ak,nk,rfl⟩:=hK.isSlice
 obtain⟨ad,tT,rfl⟩:=hD.isSlice
 obtain⟨ab,oZ,rfl⟩:=hB.isSlice
 obtain⟨LK,Jy,p0,p1,p2,p3,Ou,eD⟩:=hw
 have hbz:=hb0.size
 have l1:=hE.len aW
 have l2:=hK.len aW
 have l3:=hD.len aW
 have l4:=hB.len aW
 have hSl:=hS.le
 rw [uF]at c0
 have aaM:=eD.lt
 have xY:nb≠mb:=af
 have hnp:nb≠pb:=af
 have xo:=eD.look (n:=(j:Int)) (by unfold i64;omega)
 rw [show decide ((j:Int)∈S)=false by simp [QX]]at xo
 have hkey:keyOf Tryd.prog 3 (.int .i64 (j:Int))=some (.int .i64 (j:Int)):=keyOf_int_mk Tryd.underlying3 (wf_i64 (by unfold i64;omega))
 have HE:=hdd fun w' (hb:ah w0 w')=>yI (lo:=lo) (hi:=hi) (hE.below hb aI)
 have qC:=hdd (Gc (t:=t) (n:=(j:Int)) (x:=x) (lo:=lo) (hi:=hi))
 have aco:=hdd fun(h:x.aF.length=0)=>(show qu x.aF lo hi=true by rw [xN h];exact pX.2 (tD lo hi))
 have Hs:=hdd Mp
 have nK:=hdd hno
 clear h0 hE hK hD hB hx hn0 QX Mp hno uF hd0 hS
 generalize x.aF.length=le at *
 generalize x.keys.length=lk at *
 generalize x.kids.length=ld at *
 generalize x.buf.length=lb at *
 generalize qu x.aF lo hi=be at *
 go_enter Tryd.func93,Tryd.ntmps93
 go_upto_region 4 with (first|(at_mapUpdate;refine wpList_mapUpdate_own _ rfl _ _ _ 145 rfl 3 4 Tryd.yU Tryd.underlying145 _ mb S.length (qL S) rfl eD (by unfold maxLen;omega) _ _ (.int .i64 (j:Int)) rfl rfl hkey (.lit (.bool true)) [] (plainElem_bool Tryd.underlying4 true) ?_;intro w1 hown1 hgrow1))
 have ht1:aw (Own2 pb mb) w w1:=(aw.refl _ _).grown hgrow1 (fun k hk=>by cases hk;exact .inl (.inr rfl))
 have zb:ju w1 mb ((j:Int)::S):=ju.put hown1 rfl
 have gz:w.heap.size<=w1.heap.size:=hgrow1.size
 have gc:∀b,b≠mb->b<w.heap.size->∀o,w1.cell? ⟨b,o,none⟩=w.cell? ⟨b,o,none⟩:=fun b h1 h2 o=>World.cell?_of_block (hgrow1.block b h2 (fun e=>h1 (dw e.symm).symm))
 have gf:∀b,b≠mb->b<w.heap.size->∀o,w1.frozen? ⟨b,o,none⟩=w.frozen? ⟨b,o,none⟩:=fun b h1 h2 o=>World.frozen?_of_block (hgrow1.block b h2 (fun e=>h1 (dw e.symm).symm))
 have zk:nb<w.heap.size:=af
 have p0:=(gc pb Jy LK 0).trans p0
 have p1:=(gc pb Jy LK 1).trans p1
 have p2:=(gc pb Jy LK 2).trans p2
 have p3:=(gc pb Jy LK 3).trans p3
 have Ou:=fun o=>(gf pb Jy LK o).trans (Ou o)
 have c0:=(gc nb xY zk _).trans c0
 have c1:=(gc nb xY zk _).trans c1
 have c2:=(gc nb xY zk _).trans c2
 have c3:=(gc nb xY zk _).trans c3
 have c4:=(gc nb xY zk _).trans c4
 have R9:pb<w1.heap.size:=af
 clear gc gf hgrow1 hown1 xo eD hkey
 have hb1:ah w0 w1:=ht1.below hb0 hbz (fun i hi=>by rcases hi with rfl|rfl <;> omega)
 go_upto_region 5 with (fail)
 obtain⟨W2,hW2⟩:=bQ (w1.alloc (.cells #[.bool true, .slice ae le ne, .slice ak lk nk, .slice ad ld tT, .slice ab lb oZ] 119))
 have xn:aw (fun _=>False) w1 W2:=by rw [hW2];exact(aw.refl _ _).alloc _
 have k1:W2.heap[w1.heap.size]?=some (.cells #[.bool true, .slice ae le ne, .slice ak lk nk, .slice ad ld tT, .slice ab lb oZ] 119):=by
  rw [hW2];exact aq _ _ rfl
 have hw2:dL W2 pb mb (.slice (some ⟨nb,gL,none⟩) t.nodes.length c) t.root ((j:Int)::S) D:=
  (⟨R9,Jy,p0,p1,p2,p3,Ou,zb⟩:dL w1 pb mb _ t.root ((j:Int)::S) D).turn xn (fun h=>h) (fun h=>h)
 have ht2:aw (Own2 pb mb) w W2:=ht1.trans (xn.mono (fun _ _ h=>h.elim))
 have hb2:ah w0 W2:=ht2.below hb0 hbz (fun i hi=>by rcases hi with rfl|rfl <;> omega)
 have hz1:w1.heap.size<W2.heap.size:=(eW.1 k1).1
 rw [<-hW2]
 clear hW2 xn p0 p1 p2 p3 Ou c0 c1 c2 c3 c4 zb hb1 hb0
 obtain⟨D3,Vd⟩:=bQ ((if D=0 then d else D))
 obtain⟨x0,x1,x2,x3,x4⟩:W2.cell? ⟨w1.heap.size,0,none⟩=some (.bool true)/\W2.cell? ⟨w1.heap.size,1,none⟩=some (.slice ae le ne)/\W2.cell? ⟨w1.heap.size,2,none⟩=some (.slice ak lk nk)/\W2.cell? ⟨w1.heap.size,3,none⟩=some (.slice ad ld tT)/\W2.cell? ⟨w1.heap.size,4,none⟩=some (.slice ab lb oZ):=by
  simp [World.cell?,k1]
 have q3:=hw2.c3
 have qlt:=hw2.lt
 have qfr:=hw2.fr
 have HW:=hdd hw2
 clear hw2
 go_upto_if 59 with (fail)
 go_cut [] (fun wx=>aw (Own2 pb mb) W2 wx/\(∀o,wx.cell? ⟨w1.heap.size,o,none⟩=W2.cell? ⟨w1.heap.size,o,none⟩)/\Hid (dL wx pb mb (.slice (some ⟨nb,gL,none⟩) t.nodes.length c) t.root ((j:Int)::S) D3))
 case first=>
  by_cases g0:D=0
  ·subst g0
   rw [ar rfl]at Vd
   subst Vd
   go_wp2
   go_meet
   exact⟨(aw.refl _ _).setCell (.inl (.inl rfl)) _,fun o=>World.cell?_setCell_other _ _ _ _ bq,hdd (HW.out.ZT _)⟩
  ·rw [ai g0]at Vd
   subst Vd
   go_wp2
   go_meet
   exact⟨aw.refl _ _,fun o=>rfl,HW⟩
 case rest=>
  obtain⟨Ow,hsame,Zh⟩:=hcut
  have y1:=(hsame 1).trans x1
  have y2:=(hsame 2).trans x2
  have y3:=(hsame 3).trans x3
  have y4:=(hsame 4).trans x4
  have z1:=Zh.out.c1
  have z3:=Zh.out.c3
  have hb3:ah w0 wc:=Ow.below hb2 hb2.size (fun i hi=>by rcases hi with rfl|rfl <;> omega)
  have N0:=hdd (ht2.trans Ow)
  have Oi:=hdd (HE.out wc hb3)
  have HD3:=hdd Vd
  clear x0 x1 x2 x3 x4 k1 hb2 hb3 ht2 Ow hsame HE Vd q3 qlt qfr p0 p1 p2 p3 Ou c0 c1 c2 c3 c4 hnp hpb hmb
  by_cases g0:D3=d
  ·have hd:D=0\/D=d:=by
    have:=HD3.out
    by_cases h:D=0
    ·exact .inl h
    ·rw [ai h]at this;right;omega
   subst g0
   have e0:(D3 == D3)=true:=bq
   by_cases g1:lk+ld+lb=0
   ·obtain⟨rfl,rfl,rfl⟩:lk=0/\ld=0/\lb=0:=af
    by_cases g2:le<=6
    ·by_cases g3:le=0
     ·subst g3
      have Tn:be=true:=aco.out rfl
      subst Tn
      by_cases g4:(j:Int)=t.root
      ·have HR:=hdd (Hs.out ⟨hd,qC.out.2 ⟨af,af,fun _=>g4,rfl⟩⟩)
       have dr:((j:Int) == t.root)=true:=by simp [g4]
       clear g1 g2 g4 hd
       go_wp2_with ((go_at_call 114;(with_reducible refine Oi.out.mono ?_);rintro e' w4 ⟨rfl,BE⟩))
       go_ret
       rw [HR.out]
       exact tq (N0.out.trans (aw.of BE aI)) rfl (Zh.out.turn (X:=fun _=>False) (aw.of BE aI) (fun h=>h) (fun h=>h))
      ·have HR:=hdd (nK.out (fun h=>g4 ((qC.out.1 h.2).2.2.1 rfl)))
       have dr:((j:Int) == t.root)=false:=by simp [g4]
       clear g1 g2 g4 hd
       go_wp2
       go_ret
       rw [HR.out]
       exact bY N0.out rfl
     ·have g3':0<le:=af
      cases be with
      |true=>
       have HR:=hdd (Hs.out ⟨hd,qC.out.2 ⟨af,af,fun h=>absurd h g3,rfl⟩⟩)
       clear g1 hd
       go_wp2_with ((go_at_call 114;(with_reducible refine Oi.out.mono ?_);rintro e' w4 ⟨rfl,BE⟩))
       go_ret
       rw [HR.out]
       exact tq (N0.out.trans (aw.of BE aI)) rfl (Zh.out.turn (X:=fun _=>False) (aw.of BE aI) (fun h=>h) (fun h=>h))
      |false=>
       have HR:=hdd (nK.out (fun h=>by have:=(qC.out.1 h.2).2.2.2;cases this))
       clear g1 hd
       go_wp2_with ((go_at_call 114;(with_reducible refine Oi.out.mono ?_);rintro e' w4 ⟨rfl,BE⟩))
       go_ret
       rw [HR.out]
       exact bY (N0.out.trans (aw.of BE aI)) rfl
    ·have HR:=hdd (nK.out (fun h=>g2 (qC.out.1 h.2).2.1))
     have g2':6<le:=af
     clear g1 g2 hd
     go_wp2
     go_ret
     rw [HR.out]
     exact bY N0.out rfl
   ·have HR:=hdd (nK.out (fun h=>g1 (qC.out.1 h.2).1))
    by_cases g5:lk=0
    ·by_cases g6:ld=0
     ·have g7:0<lb:=af
      clear g1 hd
      go_wp2
      go_ret
      rw [HR.out]
      exact bY N0.out rfl
     ·have g7:0<ld:=af
      clear g1 hd
      go_wp2
      go_ret
      rw [HR.out]
      exact bY N0.out rfl
    ·have g7:0<lk:=af
     clear g1 hd
     go_wp2
     go_ret
     rw [HR.out]
     exact bY N0.out rfl
  ·have HR:=hdd (nK.out (fun h=>by
    have:=HD3.out
    rcases h.1 with h0|h0
    ·rw [ar h0]at this;exact g0 this
    ·by_cases h1:D=0
     ·rw [ar h1]at this;exact g0 this
     ·rw [ai h1]at this;exact g0 (this.trans h0)))
   have e0:(D3 == d)=false:=by simp [g0]
   go_wp2
   go_ret
   rw [HR.out]
   exact bY N0.out rfl
end
section
set_option maxRecDepth 100000
set_option maxHeartbeats 2000000
variable {pb mb:Nat} {t:Tr} {nv:Value} {w0:World}
theorem FY (h0:bu w0 nv t.nodes) {f:Nat} {n lo hi d:Int} {S:List Int} {D:Int} {w:World} {x:Nd} (hb0:ah w0 w) (hpb:w0.heap.size<=pb) (hmb:w0.heap.size<=mb) (hw:dL w pb mb nv t.root S D) (hS:Fb t S) (hd0:d=12-f) (hf:f<=11)
  (IH:∀(n lo hi d:Int) (S:List Int) (D:Int) (w:World),d=13-f->ah w0 w->dL w pb mb nv t.root S D->Fb t S ->
   Calls Tryd.prog 93 #[.pointer (some ⟨pb,0,none⟩), .int .i64 n, .int .i64 lo, .int .i64 hi, .int .i64 d] w (nC pb mb nv t.root (dR t f n lo hi (S,D)) w))
  (hx:t.dn n=some x) (QX:n∉S) (uF:x.leaf=false) :
  Calls Tryd.prog 93 #[.pointer (some ⟨pb,0,none⟩), .int .i64 n, .int .i64 lo, .int .i64 hi, .int .i64 d] w (nC pb mb nv t.root (dR t (f+1) n lo hi (S,D)) w):=by
 have Mp:qw x lo hi->dR t (f+1) n lo hi (S,D)=np (fun k a b s=>dR t f k a b s) x lo hi x.kids 0 (n::S,D):=fun h=>Dm hx QX uF h
 have hno:¬qw x lo hi->dR t (f+1) n lo hi (S,D)=none:=fun h=>Ah hx uF h
 have hS1:Fb t (n::S):=hS.cons QX hx
 obtain⟨hn0,Gy,xn⟩:=vd hx
 obtain⟨j,hj⟩:∃j:Nat,n=j:=⟨n.toNat,af⟩
 subst hj
 rw [Int.toNat_natCast]at Gy xn
 have hd1:1<=d:=af
 have hd2:d<=12:=af
 obtain⟨nb,gL,c,ev,kv,dv,bv,rfl,hnb,hE,hK,hD,hB,c0,c1,c2,c3,c4⟩:=pQ h0 hb0 xn
 have hlen:=h0.len.2
 obtain⟨ae,ne,rfl⟩:=hE.isSlice
 obtain⟨ak,nk,rfl⟩:=hK.isSlice
 obtain⟨ad,tT,rfl⟩:=hD.isSlice
 obtain⟨ab,oZ,rfl⟩:=hB.isSlice
 obtain⟨LK,Jy,p0,p1,p2,p3,Ou,eD⟩:=hw
 have hbz:=hb0.size
 have l1:=hE.len aW
 have l2:=hK.len aW
 have l3:=hD.len aW
 have l4:=hB.len aW
 have hSl:=hS.le
 rw [uF]at c0
 have aaM:=eD.lt
 have xY:nb≠mb:=af
 have hnp:nb≠pb:=af
 have xo:=eD.look (n:=(j:Int)) (by unfold i64;omega)
 rw [show decide ((j:Int)∈S)=false by simp [QX]]at xo
 have hkey:keyOf Tryd.prog 3 (.int .i64 (j:Int))=some (.int .i64 (j:Int)):=keyOf_int_mk Tryd.underlying3 (wf_i64 (by unfold i64;omega))
 have HE:=hdd fun w' (hb:ah w0 w')=>yI (lo:=lo) (hi:=hi) (hB.below hb aI)
 have qC:=hdd (JP (x:=x) (lo:=lo) (hi:=hi))
 have Hs:=hdd Mp
 have nK:=hdd hno
 have Uy:=hdd IH
 have Yq:=hdd hd0
 have zT:=hdd hS1
 have HKEY:=hdd fun w' (hb:ah w0 w') (i:Nat) (y:Int) (hy:x.keys[i]?=some y)=>gu.get (hK.below hb aI) hy
 have xP:=hdd fun w' (hb:ah w0 w') (i:Nat) (y:Int) (hy:x.kids[i]?=some y)=>gu.get (hD.below hb aI) hy
 clear h0 hE hK hD hB hx hn0 QX Mp hno uF hd0 hS hS1 IH
 obtain⟨lk,hlk⟩:=bw (x.keys.length)
 obtain⟨ld,MG⟩:=bw (x.kids.length)
 have Oe:=hdd hlk
 have Qw:=hdd MG
 clear hlk MG
 generalize x.aF.length=le at *
 generalize x.buf.length=lb at *
 generalize qu x.buf lo hi=be at *
 rw [Oe.out]at c2 l2 qC
 rw [Qw.out]at c3 l3 qC
 go_enter Tryd.func93,Tryd.ntmps93
 go_upto_region 4 with (first|(at_mapUpdate;refine wpList_mapUpdate_own _ rfl _ _ _ 145 rfl 3 4 Tryd.yU Tryd.underlying145 _ mb S.length (qL S) rfl eD (by unfold maxLen;omega) _ _ (.int .i64 (j:Int)) rfl rfl hkey (.lit (.bool true)) [] (plainElem_bool Tryd.underlying4 true) ?_;intro w1 hown1 hgrow1))
 have ht1:aw (Own2 pb mb) w w1:=(aw.refl _ _).grown hgrow1 (fun k hk=>by cases hk;exact .inl (.inr rfl))
 have zb:ju w1 mb ((j:Int)::S):=ju.put hown1 rfl
 have gz:w.heap.size<=w1.heap.size:=hgrow1.size
 have gc:∀b,b≠mb->b<w.heap.size->∀o,w1.cell? ⟨b,o,none⟩=w.cell? ⟨b,o,none⟩:=fun b h1 h2 o=>World.cell?_of_block (hgrow1.block b h2 (fun e=>h1 (dw e.symm).symm))
 have gf:∀b,b≠mb->b<w.heap.size->∀o,w1.frozen? ⟨b,o,none⟩=w.frozen? ⟨b,o,none⟩:=fun b h1 h2 o=>World.frozen?_of_block (hgrow1.block b h2 (fun e=>h1 (dw e.symm).symm))
 have zk:nb<w.heap.size:=af
 replace p0:=(gc pb Jy LK 0).trans p0
 replace p1:=(gc pb Jy LK 1).trans p1
 replace p2:=(gc pb Jy LK 2).trans p2
 replace p3:=(gc pb Jy LK 3).trans p3
 replace Ou:=fun o=>(gf pb Jy LK o).trans (Ou o)
 replace c0:=(gc nb xY zk _).trans c0
 replace c1:=(gc nb xY zk _).trans c1
 replace c2:=(gc nb xY zk _).trans c2
 replace c3:=(gc nb xY zk _).trans c3
 replace c4:=(gc nb xY zk _).trans c4
 have R9:pb<w1.heap.size:=af
 clear gc gf hgrow1 hown1 xo eD hkey
 have hb1:ah w0 w1:=ht1.below hb0 hbz (fun i hi=>by rcases hi with rfl|rfl <;> omega)
 go_upto_region 5 with (fail)
 obtain⟨W2,hW2⟩:=bQ (w1.alloc (.cells #[.bool false, .slice ae le ne, .slice ak lk nk, .slice ad ld tT, .slice ab lb oZ] 119))
 have SQ:aw (fun _=>False) w1 W2:=by rw [hW2];exact(aw.refl _ _).alloc _
 have k1:W2.heap[w1.heap.size]?=some (.cells #[.bool false, .slice ae le ne, .slice ak lk nk, .slice ad ld tT, .slice ab lb oZ] 119):=by
  rw [hW2];exact aq _ _ rfl
 have hw2:dL W2 pb mb (.slice (some ⟨nb,gL,none⟩) t.nodes.length c) t.root ((j:Int)::S) D:=
  (⟨R9,Jy,p0,p1,p2,p3,Ou,zb⟩:dL w1 pb mb _ t.root ((j:Int)::S) D).turn SQ (fun h=>h) (fun h=>h)
 have ht2:aw (Own2 pb mb) w W2:=ht1.trans (SQ.mono (fun _ _ h=>h.elim))
 have hb2:ah w0 W2:=ht2.below hb0 hbz (fun i hi=>by rcases hi with rfl|rfl <;> omega)
 have hz1:w1.heap.size<W2.heap.size:=(eW.1 k1).1
 rw [<-hW2]
 clear hW2 SQ p0 p1 p2 p3 Ou c0 c1 c2 c3 c4 zb hb1 hb0 Gy xn
 obtain⟨x0,x1,x2,x3,x4⟩:W2.cell? ⟨w1.heap.size,0,none⟩=some (.bool false)/\W2.cell? ⟨w1.heap.size,1,none⟩=some (.slice ae le ne)/\W2.cell? ⟨w1.heap.size,2,none⟩=some (.slice ak lk nk)/\W2.cell? ⟨w1.heap.size,3,none⟩=some (.slice ad ld tT)/\W2.cell? ⟨w1.heap.size,4,none⟩=some (.slice ab lb oZ):=by
  simp [World.cell?,k1]
 have HW:=hdd hw2
 have rD:=hdd ht2
 have Oi:=hdd (HE.out W2 hb2)
 have hwl:IntKind.i64.wrap ((ld:Int)-1)=(ld:Int)-1:=IntWalk.i64_in _ af
 clear hw2 HE
 by_cases hok:qw x lo hi
 ·have HR:=hdd (Hs.out hok)
  obtain⟨e1,e2,e3,e4,e5,e6⟩:=qC.out.1 hok
  subst e1 e6
  have d3:((lk:Int) != (ld:Int)-1)=false:=by simp;omega
  have e4a:lk+1<=ld:=af
  have e4b:ld<=lk+1:=af
  clear hok e4
  go_upto_region 11 with ((go_at_call 114;(with_reducible refine Oi.out.mono ?_);rintro e' w4 ⟨rfl,BE⟩))
  have k4:w4.heap[w1.heap.size]?=_:=(BE.block _ hz1).trans k1
  have YM:w1.heap.size<w4.heap.size:=(eW.1 k4).1
  have U0:aw (fun _=>False) W2 w4:=aw.of BE aI
  have hb4:ah w0 w4:=Below.trans' hb2 BE hb2.size
  have HW4:=hdd (HW.out.turn U0 (fun h=>h) (fun h=>h))
  have HC:=hdd fun wr (ht:aw (Own2 pb mb) w4 wr)=>(by
   have b1:wr.heap[w1.heap.size]?=_:=(ht.block _ YM (fun h=>by rcases h with h|h <;> omega)).trans k4
   simp [World.cell?,b1] :
   wr.cell? ⟨w1.heap.size,2,none⟩=some (.slice ak lk nk)/\wr.cell? ⟨w1.heap.size,3,none⟩=some (.slice ad ld tT))
  have HB:=hdd fun wr (ht:aw (Own2 pb mb) w4 wr)=>(aw.below (B:=w0.heap.size) ht hb4 hb4.size (fun i hi=>by rcases hi with rfl|rfl <;> omega):ah w0 wr)
  have HT:=hdd fun wr (ht:aw (Own2 pb mb) w4 wr)=>((rD.out.trans (U0.mono (fun _ _ h=>h.elim))).trans ht:aw (Own2 pb mb) w wr)
  clear x0 x1 x2 x3 x4 k1 k4 hb2 hb4 ht1 ht2 U0 BE Oi nK Hs qC HW rD hwl d3
  obtain⟨u2,u3⟩:=HC.out w4 (aw.refl _ _)
  go_wp2_with fail
  clear u2 u3
  go_loopg [159] ld (fun g i wr=>∃(k:Nat) (S':List Int) (D':Int),k<=ld/\g=ld-k/\i = .int .i64 k/\Hid (Fb t S') /\
   Hid (dR t (f+1) (j:Int) lo hi (S,D)=np (fun k a b s=>dR t f k a b s) x lo hi (x.kids.drop k) k (S',D'))/\aw (Own2 pb mb) w4 wr/\Hid (dL wr pb mb (.slice (some ⟨nb,gL,none⟩) t.nodes.length c) t.root S' D'))
  case atStart=>exact⟨0,(j:Int)::S,D,iN _,rfl,rfl,zT,hdd (by rw [HR.out];rfl),aw.refl _ _,HW4⟩
  case round=>
   obtain⟨k,S',D',hk,rfl,rfl,HS',X4,ht,HW'⟩:=hrel
   obtain⟨p2,p3⟩:=HC.out _ ht
   by_cases hlt':k<ld
   ·obtain⟨K,hK⟩:∃K,x.kids[k]?=some K:=⟨x.kids[k]'(by rw [Qw.out];exact hlt'),bq⟩
    obtain⟨kb,Ai,VX,ke,hkb,hkc⟩:=xP.out _ (HB.out _ ht) k K hK
    injection ke with VW VU VT
    subst VW VT
    obtain⟨F,hF⟩:=bw (x.from lo k)
    obtain⟨T,hT⟩:=bw (x.upto hi k)
    have rE:=hdd (X4.out.trans (Gf (by rw [Qw.out];exact hlt')))
    have hKe:x.kids[k]'(by rw [Qw.out];exact hlt')=K:=(gH.1 hK).2
    rw [hKe,hF,hT]at rE
    have agR:lk<=ld:=af
    have HUP:Hid ((k<lk->x.keys[k]?=some T)/\(¬k<lk->T=hi)):=hdd ⟨fun h=>by
      have hlk:k<x.keys.length:=by have:=Oe.out;omega
      rw [<-hT];simp [Nd.upto,hlk],fun h=>by
      have hlk:¬k<x.keys.length:=by have:=Oe.out;omega
      rw [<-hT];simp [Nd.upto,hlk]⟩
    have HFR:Hid ((0<k->x.keys[k-1]?=some F)/\(k=0->F=lo)):=hdd ⟨fun h=>by
      have hlk:k-1<x.keys.length:=by have:=Oe.out;omega
      have ie:k≠0:=af
      rw [<-hF];simp [Nd.from,ie,hlk],fun h=>by
      rw [<-hF];simp [Nd.from,h]⟩
    clear hK hT hF hKe
    go_upto_if 167 with (fail)
    go_cut [14] (fun v wx=>v = .int .i64 F/\wr=wx)
    case first=>
     by_cases hk2:0<k
     ·obtain⟨b2,LV,cap2,e2,J3,hc2⟩:=HKEY.out _ (HB.out _ ht) (k-1) F (HFR.out.1 hk2)
      injection e2 with f1 f2 f3
      subst f1 f3
      have kS:=fun w=>lQ (ab:=b2) (aY:=LV) (n:=lk) (cap:=nk) (show (k:Int)-1=((k-1:Nat):Int) by omega) af w
      have hw1:IntKind.i64.wrap ((k:Int)-1)=(k:Int)-1:=IntWalk.i64_in _ af
      rw [Oe.out]at *
      clear f2 VU
      go_wp2
      go_meet
      exact⟨rfl,rfl⟩
     ·obtain rfl:k=0:=af
      have HTE:=hdd (HFR.out.2 rfl)
      clear VU
      go_wp2
      go_meet
      exact⟨by rw [HTE.out],rfl⟩
    case rest=>
     obtain⟨rfl,rfl⟩:=hcut
     go_upto_if 178 with (fail)
     go_cut [15] (fun v wx=>v = .int .i64 T/\wr=wx)
     case first=>
      by_cases hk2:k<lk
      ·obtain⟨b2,LV,cap2,e2,J3,hc2⟩:=HKEY.out _ (HB.out _ ht) k T (HUP.out.1 hk2)
       injection e2 with f1 f2 f3
       subst f1 f3
       clear f2 VU
       go_wp2
       go_meet
       exact⟨rfl,rfl⟩
      ·have HTE:=hdd (HUP.out.2 hk2)
       clear VU
       go_wp2
       go_meet
       exact⟨by rw [HTE.out],rfl⟩
     case rest=>
      obtain⟨rfl,rfl⟩:=hcut
      clear p2 p3 VU
      by_cases g1:F<T/\lo<=F/\T<=hi
      ·have HD1:=hdd (show d+1=13-f by have:=Yq.out;omega)
       have hwd:IntKind.i64.wrap (d+1)=d+1:=IntWalk.i64_in _ af
       have lg:=hdd (Uy.out K F T (d+1) S' D' wr HD1.out (HB.out _ ht) HW'.out HS'.out)
       obtain⟨a1,a2,a3⟩:=g1
       cases hR:dR t f K F T (S',D') with
       |none=>
        have tV:=hdd (show dR t (f+1) (j:Int) lo hi (S,D)=none by rw [rE.out,ar ⟨a1,a2,a3⟩];simp only [hR])
        rw [hR]at lg
        clear hR
        go_wp2_with ((go_at_call 93;(with_reducible refine lg.out.mono ?_);rintro e w5 ⟨qq,rfl⟩))
        go_ret
        rw [tV.out]
        exact bY ((HT.out _ ht).trans qq) rfl
       |some p=>
        obtain⟨S2,D2⟩:=p
        have OP:=hdd (show dR t (f+1) (j:Int) lo hi (S,D)=np (fun k a b s=>dR t f k a b s) x lo hi (x.kids.drop (k+1)) (k+1) (S2,D2) by rw [rE.out,ar ⟨a1,a2,a3⟩];simp only [hR])
        have X0:=hdd (show Fb t S2 from Dl f K F T (S',D') (S2,D2) HS'.out hR)
        rw [hR]at lg
        clear hR
        go_wp2_with ((go_at_call 93;(with_reducible refine lg.out.mono ?_);rintro e w5 ⟨qq,rfl,qy⟩))
        go_roundg (ld-(k+1))
        case measure=>omega
        case rel=>exact⟨k+1,S2,D2,af,rfl,by go_num,X0,OP,ht.trans qq,hdd qy⟩
      ·have tV:=hdd (show dR t (f+1) (j:Int) lo hi (S,D)=none by rw [rE.out,ai g1])
       by_cases a1:F<T
       ·by_cases a2:lo<=F
        ·have a3:hi<T:=af
         clear g1
         go_wp2
         go_ret
         rw [tV.out]
         exact bY (HT.out _ ht) rfl
        ·have a2':F<lo:=af
         clear g1
         go_wp2
         go_ret
         rw [tV.out]
         exact bY (HT.out _ ht) rfl
       ·have a1':T<=F:=af
        clear g1
        go_wp2
        go_ret
        rw [tV.out]
        exact bY (HT.out _ ht) rfl
   ·have Ht:=hdd (X4.out.trans (JL (by rw [Qw.out];omega)))
    go_wp2
    go_ret
    rw [Ht.out]
    exact tq (HT.out _ ht) rfl HW'.out
 ·have HR:=hdd (nK.out hok)
  have GD:=qC.out
  by_cases g1:le=0
  ·subst g1
   by_cases g2:ld<=4
   ·by_cases g2':2<=ld
    ·by_cases g3:lk+1=ld
     ·have d3:((lk:Int) != (ld:Int)-1)=false:=by simp;omega
      by_cases g4:lb<=8
      ·have Tn:be=false:=by
        cases be with
        |false=>rfl
        |true=>exact absurd (GD.2 ⟨rfl,g2',g2,g3,g4,rfl⟩) hok
       subst Tn
       clear hok GD g3 qC
       go_wp2_with ((go_at_call 114;(with_reducible refine Oi.out.mono ?_);rintro e' w4 ⟨rfl,BE⟩))
       go_ret
       rw [HR.out]
       exact bY (rD.out.trans (aw.of BE aI)) rfl
      ·have g4':8<lb:=af
       clear hok GD g3 qC
       go_wp2
       go_ret
       rw [HR.out]
       exact bY rD.out rfl
     ·have d3:((lk:Int) != (ld:Int)-1)=true:=by simp;omega
      clear hok GD g3 qC
      go_wp2
      go_ret
      rw [HR.out]
      exact bY rD.out rfl
    ·have ah9:ld<2:=af
     clear hok GD qC
     go_wp2
     go_ret
     rw [HR.out]
     exact bY rD.out rfl
   ·have g2':4<ld:=af
    clear hok GD qC
    go_wp2
    go_ret
    rw [HR.out]
    exact bY rD.out rfl
  ·have g1':0<le:=af
   clear hok GD qC
   go_wp2
   go_ret
   rw [HR.out]
   exact bY rD.out rfl
theorem L3 (h0:bu w0 nv t.nodes) (hpb:w0.heap.size<=pb) (hmb:w0.heap.size<=mb):∀(f:Nat),f<=12->∀(n lo hi d:Int) (S:List Int) (D:Int) (w:World),d=13-f->ah w0 w->dL w pb mb nv t.root S D->Fb t S ->
  Calls Tryd.prog 93 #[.pointer (some ⟨pb,0,none⟩), .int .i64 n, .int .i64 lo, .int .i64 hi, .int .i64 d] w (nC pb mb nv t.root (dR t f n lo hi (S,D)) w):=by
 intro f
 induction f with
 |zero=>intro _ n lo hi d S D w hd hb hw hS;exact yO h0 hw hd af (.inl rfl)
 |succ f ih=>
  intro hf n lo hi d S D w hd hb hw hS
  cases hx:t.dn n with
  |none=>exact yO h0 hw hd hf (.inr (.inl hx))
  |some x=>
   by_cases hn:n∈S
   ·exact yO h0 hw hd hf (.inr (.inr hn))
   ·cases hl:x.leaf with
    |true=>exact JD h0 hb hpb hmb hw hS af af hx hn hl
    |false=>exact FY h0 hb hpb hmb hw hS af af (fun n lo hi d S D w=>ih af n lo hi d S D w) hx hn hl
end
section
set_option maxRecDepth 100000
set_option maxHeartbeats 1000000
theorem jr {v:Value} {t:Tr} {w:World} (h:bL w v t) :
  Calls Tryd.prog 73 #[v] w fun e w'=>e = .returned (.int .i64 (ax t))/\ah w w':=by
 obtain⟨nv,rfl,hn⟩:=h
 rw [<-Kk]
 obtain⟨⟨ao,cap,rfl⟩,hlen⟩:=hn.len
 by_cases hbig:2000<t.nodes.length
 ·have HR:=hdd (show tG t=1 from ar hbig)
  go_enter Tryd.func73,Tryd.ntmps73
  go_wp2
  go_ret
  exact⟨ia HR.out.symm,(by repeat (first|exact aJ _ _|assumption|refine cM ?_ _|refine Below.drew ?_|refine Below.alloc ?_ (by first|omega|(simp;done)|(simp;omega)) _|refine Below.setCell ?_ (by first|omega|(simp;done)|(simp;omega)) _))⟩
 ·have hsm:t.nodes.length<=2000:=af
  have HR:=hdd (show tG t=_ from ai hbig)
  have hmm:=@run_makeMap Tryd.prog
  clear hbig
  go_enter Tryd.func73,Tryd.ntmps73
  go_upto_region 4 with (fail)
  obtain⟨W3,hW3⟩:=bQ (((w.alloc (.cells #[.slice ao t.nodes.length cap, .int .i64 t.root] 32)).alloc (.map #[] 0)).alloc (.cells #[.slice ao t.nodes.length cap, .int .i64 t.root, .map (some (w.heap.size+1)), .int .i64 0] 147))
  have hb3:ah w W3:=by rw [hW3];exact(by repeat (first|exact aJ _ _|assumption|refine cM ?_ _|refine Below.drew ?_|refine Below.alloc ?_ (by first|omega|(simp;done)|(simp;omega)) _|refine Below.setCell ?_ (by first|omega|(simp;done)|(simp;omega)) _))
  have hz3:W3.heap.size=w.heap.size+1+1+1:=by rw [hW3];simp
  have k0:W3.heap[w.heap.size]?=some (.cells #[.slice ao t.nodes.length cap, .int .i64 t.root] 32):=by
   rw [hW3,lJ _ _ _ (by simp;omega),lJ _ _ _ bq];exact aq _ _ rfl
  have k2:W3.heap[w.heap.size+1+1]?=some (.cells #[.slice ao t.nodes.length cap, .int .i64 t.root, .map (some (w.heap.size+1)), .int .i64 0] 147):=by
   rw [hW3];exact aq _ _ bq
  have eD:ju W3 (w.heap.size+1) []:=by
   have h1:=World.ownsMap_made (H:=Unit) (w.alloc (.cells #[.slice ao t.nodes.length cap, .int .i64 t.root] 32)) Tryd.prog 3 (plainElem Tryd.prog 4)
   rw [show (w.alloc (.cells #[.slice ao t.nodes.length cap, .int .i64 t.root] 32)).heap.size=w.heap.size+1 by simp]at h1
   have h2:ju _ (w.heap.size+1) []:=h1
   rw [hW3]
   exact h2.turn (X:=fun _=>False) ((aw.refl _ _).alloc _) (fun h=>h)
  have hw3:dL W3 (w.heap.size+1+1) (w.heap.size+1) (.slice ao t.nodes.length cap) t.root [] 0:=
   ⟨af,af,by simp [World.cell?,k2],by simp [World.cell?,k2],by simp [World.cell?,k2],by simp [World.cell?,k2],fun o=>by simp [World.frozen?,k2],eD⟩
  have q1:W3.cell? ⟨w.heap.size,1,none⟩=some (.int .i64 t.root):=by simp [World.cell?,k0]
  have lg:=hdd (L3 hn (pb:=w.heap.size+1+1) (mb:=w.heap.size+1) af af 12 aI t.root 0 1099511627776 1 [] 0 W3.drew aW hb3.drew (hw3.turn (X:=fun _=>False) (aw.refl _ _).drew (fun h=>h) (fun h=>h)) ⟨List.nodup_nil,fun y h=>by cases h⟩)
  have HB:=hdd fun w5 (ht:aw (Own2 (w.heap.size+1+1) (w.heap.size+1)) W3.drew w5)=>(ht.below hb3.drew hb3.size (fun i hi=>by rcases hi with rfl|rfl <;> omega):ah w w5)
  have Vy:=hdd fun w5 (ht:aw (Own2 (w.heap.size+1+1) (w.heap.size+1)) W3.drew w5)=>(by
   have b0:w5.heap[w.heap.size]?=_:=(ht.block _ (by show w.heap.size<W3.heap.size;omega) (fun h=>by rcases h with h|h <;> omega)).trans k0
   simp [World.cell?,b0]:w5.cell? ⟨w.heap.size,0,none⟩=some (.slice ao t.nodes.length cap)/\w5.cell? ⟨w.heap.size,1,none⟩=some (.int .i64 t.root))
  have hs0:W3.drew.cell? ⟨w.heap.size,0,none⟩=some (.slice ao t.nodes.length cap)/\W3.drew.cell? ⟨w.heap.size,1,none⟩=some (.int .i64 t.root)/\W3.drew.cell? ⟨w.heap.size+1+1,2,none⟩=some (.map (some (w.heap.size+1))):=by
   obtain⟨a,b⟩:=Vy.out _ (aw.refl _ _)
   exact⟨a,b,hw3.c2⟩
  rw [<-hW3]
  clear hW3 k0 k2 eD hw3 hmm hn
  have pC:=hdd fun S D=>Dl (t:=t) 12 t.root 0 1099511627776 ([],0) (S,D) ⟨List.nodup_nil,fun y h=>by cases h⟩
  cases hr:dR t 12 t.root 0 1099511627776 ([],0) with
  |none=>
   rw [hr]at lg
   have X6:=hdd (show tG t=7 by rw [HR.out,hr])
   clear hr
   refine fS 3 _ rfl cy cy ?_
   (simp only [List.take_succ_cons,List.take_zero,List.drop_succ_cons,List.drop_zero];(repeat ((with_reducible refine wpStill_step (fun K hK=>?_));go_simp;(with_reducible refine hK _ ?_);clear hK K));(with_reducible refine wpStill_nil ?_))
   intro K hK
   go_simp
   (with_reducible refine lg.out.mono ?_);rintro e w5 ⟨qq,rfl⟩
   go_simp
   refine hK _ _ ?_
   clear hK K
   ((repeat ((with_reducible refine wpStill_step (fun K hK=>?_));go_simp;(with_reducible refine hK _ ?_);clear hK K));(with_reducible refine wpStill_nil ?_))
   all_goals
    go_wp2
    go_ret
    exact⟨ia X6.out.symm,HB.out _ qq⟩
  |some p=>
   obtain⟨S,D⟩:=p
   have hok:=pC.out S D hr
   rw [hr]at lg
   by_cases hl:S.length=t.nodes.length
   ·have X6:=hdd (show tG t=0 by rw [HR.out,hr];exact ar hl)
    have hl':((S.length:Int) != (t.nodes.length:Int))=false:=by simp [hl]
    have HN:=hdd hok.1
    clear hr hok hl
    refine fS 3 _ rfl cy cy ?_
    (simp only [List.take_succ_cons,List.take_zero,List.drop_succ_cons,List.drop_zero];(repeat ((with_reducible refine wpStill_step (fun K hK=>?_));go_simp;(with_reducible refine hK _ ?_);clear hK K));(with_reducible refine wpStill_nil ?_))
    intro K hK
    go_simp
    (with_reducible refine lg.out.mono ?_);rintro e w5 ⟨qq,rfl,qy⟩
    have c2:=qy.c2
    obtain⟨c0,-⟩:=Vy.out _ qq
    have U7:=qy.set.len HN.out
    go_simp
    refine hK _ _ ?_
    clear hK K
    ((repeat ((with_reducible refine wpStill_step (fun K hK=>?_));go_simp;(with_reducible refine hK _ ?_);clear hK K));(with_reducible refine wpStill_nil ?_))
    all_goals
     go_wp2
     go_ret
     exact⟨ia X6.out.symm,HB.out _ qq⟩
   ·have X6:=hdd (show tG t=7 by rw [HR.out,hr];exact ai hl)
    have hl':((S.length:Int) != (t.nodes.length:Int))=true:=by simp;omega
    have HN:=hdd hok.1
    clear hr hok hl
    refine fS 3 _ rfl cy cy ?_
    (simp only [List.take_succ_cons,List.take_zero,List.drop_succ_cons,List.drop_zero];(repeat ((with_reducible refine wpStill_step (fun K hK=>?_));go_simp;(with_reducible refine hK _ ?_);clear hK K));(with_reducible refine wpStill_nil ?_))
    intro K hK
    go_simp
    (with_reducible refine lg.out.mono ?_);rintro e w5 ⟨qq,rfl,qy⟩
    have c2:=qy.c2
    obtain⟨c0,-⟩:=Vy.out _ qq
    have U7:=qy.set.len HN.out
    go_simp
    refine hK _ _ ?_
    clear hK K
    ((repeat ((with_reducible refine wpStill_step (fun K hK=>?_));go_simp;(with_reducible refine hK _ ?_);clear hK K));(with_reducible refine wpStill_nil ?_))
    all_goals
     go_wp2
     go_ret
     exact⟨ia X6.out.symm,HB.out _ qq⟩
end
end Go.Proofs.YtmljjfhgciaceaaDoor
