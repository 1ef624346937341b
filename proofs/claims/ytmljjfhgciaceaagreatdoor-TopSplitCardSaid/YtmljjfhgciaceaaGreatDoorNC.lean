/- Texts of mine that come as one: NodeA NodeB NodeC Check. -/
import Derived.Test.YtmljjfhgciaceaaGreatDoorHd
import Derived.Test.YtmljjfhgciaceaaGreatDoorPA
import Derived.Test.YtmljjfhgciaceaaGreatDoorSR
import Derived.Test.YtmljjfhgciaceaaGreatDoorSX
import Derived.Deep.CutBlock
import Derived.Test.YtmljjfhgciaceaaGreatDoorSO
import Derived.Carry
import Derived.Deep.RegionHeld3
namespace Go.Proofs.YtmljjfhgciaceaaGreatDoor
open Go.RowKit
section
set_option maxRecDepth 100000
set_option maxHeartbeats 1000000
variable {e:Ending} {D:Int} {S:List Int} {pb mb:Nat} {nv:Value} {w w':World}
structure dL (w:World) (pb mb:Nat) (nv:Value) (root:Int) (S:List Int) (D:Int):Prop where
 lt:pb<w.heap.size
 ne:pb≠mb
 c0:w.cell? ⟨pb,0,none⟩=some nv
 c1:w.cell? ⟨pb,1,none⟩=some (.int .i64 root)
 c2:w.cell? ⟨pb,2,none⟩=some (.map (some mb))
 c3:w.cell? ⟨pb,3,none⟩=some (.int .i64 D)
 fr:∀o,w.frozen? ⟨pb,o,none⟩=false
 set:jw w mb S
def Own2 (pb mb:Nat) (b:Nat):Prop:=b=pb\/b=mb
theorem dL.turn {root:Int} (h:dL w pb mb nv root S D) {X:Nat->Prop} (ht:aw X w w') (hp:¬X pb) (hm:¬X mb):dL w' pb mb nv root S D:=
 ⟨mR h.lt ht.size,h.ne,(ht.cell h.lt hp 0).trans h.c0,(ht.cell h.lt hp 1).trans h.c1,(ht.cell h.lt hp 2).trans h.c2,(ht.cell h.lt hp 3).trans h.c3,fun o=>(ht.frozen h.lt hp o).trans (h.fr o),h.set.turn ht hm⟩
def nz (pb mb:Nat) (nv:Value) (root:Int) (r:Option (List Int×Int)) (w:World) (e:Ending) (w':World):Prop:=
 aw (Own2 pb mb) w w'/\(match r with|none=>e = .returned (.bool false)|some (S',D')=>e = .returned (.bool true)/\dL w' pb mb nv root S' D')
theorem bZ {root:Int} (ht:aw (Own2 pb mb) w w') (he:e = .returned (.bool false)):nz pb mb nv root none w e w':=⟨ht,he⟩
theorem tB {root:Int} (ht:aw (Own2 pb mb) w w') (he:e = .returned (.bool true)) (hw:dL w' pb mb nv root S D):nz pb mb nv root (some (S,D)) w e w':=⟨ht,he,hw⟩
theorem yT {t:Tr} {w0:World} (h0:bz w0 nv t.nodes) {f:Nat} {n lo hi d:Int} (hw:dL w pb mb nv t.root S D) (hd:d=13-f) (hf:f<=12) (hbad:f=0\/t.dm n=none\/n∈S) :
  Calls Tryz.prog 116 #[.pointer (some ⟨pb,0,none⟩), .int .i64 n, .int .i64 lo, .int .i64 hi, .int .i64 d] w (nz pb mb nv t.root (dQ t f n lo hi (S,D)) w):=by
 have hr:dQ t f n lo hi (S,D)=none:=by
  cases f with
  |zero=>rfl
  |succ f=>
   rcases hbad with h|h|h
   ·cases h
   ·exact yU h
   ·cases hx:t.dm n with
    |none=>exact yU hx
    |some x=>exact F5 hx h
 rw [hr]
 obtain⟨⟨ao,c,rfl⟩,hlen⟩:=h0.len
 obtain⟨lt,ne,c0,c1,c2,c3,fr,eD⟩:=hw
 by_cases hin:t.dm n=none
 ·have hn:=ND hin
  clear hr hbad hd hin h0 fr eD
  by_cases hn0:n<0
  ·clear hn
   go_enter Tryz.func116,Tryz.ntmps116
   go_wp2
   go_ret
   exact bZ (aw.refl _ _) rfl
  ·have Cm:(t.nodes.length:Int)<=n:=af
   clear hn
   go_enter Tryz.func116,Tryz.ntmps116
   go_wp2
   go_ret
   exact bZ (aw.refl _ _) rfl
 ·obtain⟨x,hx⟩:=Option.ne_none_iff_exists'.1 hin
  obtain⟨hn0,Cm,-⟩:=ve hx
  have tW:n<(t.nodes.length:Int):=af
  have xo:=eD.look (n:=n) (by unfold i64;omega)
  by_cases hs:n∈S
  ·have hs':decide (n∈S)=true:=by simp [hs]
   rw [hs']at xo
   clear hr hbad hd hin h0 fr eD hs hs' hx
   go_enter Tryz.func116,Tryz.ntmps116
   go_wp2
   go_ret
   exact bZ (aw.refl _ _) rfl
  ·obtain rfl:f=0:=by rcases hbad with h|h|h;exact h;exact absurd h hin;exact absurd h hs
   have hs':decide (n∈S)=false:=by simp [hs]
   rw [hs']at xo
   have d2:(12:Int)<d:=af
   clear hr hbad hd hin h0 fr eD hs hs' hx
   go_enter Tryz.func116,Tryz.ntmps116
   go_wp2
   go_ret
   exact bZ (aw.refl _ _) rfl
end
open Go.Maps
section
set_option maxRecDepth 100000
set_option maxHeartbeats 2000000
variable {n D:Int} {S:List Int} {mb pb:Nat} {nv:Value} {w:World}
theorem jw.put {w1:World} {k:Nat} (h:w1.ownsMap (H:=Unit) Tryz.prog 3 (plainElem Tryz.prog 4) mb k ((qQ S).put (.int .i64 n) (.lit (.bool true)))) (hk:k=S.length+1):jw w1 mb (n::S):=by
 subst hk;exact h
theorem dL.ZX {root:Int} (h:dL w pb mb nv root S D) (d:Int):dL (w.setCell ⟨pb,3,none⟩ (.int .i64 d)) pb mb nv root S d:=by
 have ht:aw (·=pb) w (w.setCell ⟨pb,3,none⟩ (.int .i64 d)):=aw.setCell (X:=(·=pb)) (aw.refl _ _) (.inl rfl) _
 refine⟨by rw [ay];exact h.lt,h.ne,?_,?_,?_,?_,fun o=>?_,h.set.turn ht h.ne.symm⟩
 ·rw [World.cell?_setCell_other _ _ _ _ bt];exact h.c0
 ·rw [World.cell?_setCell_other _ _ _ _ bt];exact h.c1
 ·rw [World.cell?_setCell_other _ _ _ _ bt];exact h.c2
 ·exact World.cell?_setCell_same' _ _ _ (by rw [h.c3];rfl)
 ·rw [<-h.fr o];simp [World.frozen?,World.setCell,Array.getElem?_modify]
  cases w.heap[pb]? with
  |none=>rfl
  |some o=>cases o <;> rfl
theorem JF {t:Tr} {w0:World} (h0:bz w0 nv t.nodes) {f:Nat} {lo hi d:Int} {x:Nd} (hb0:ah w0 w) (hpb:w0.heap.size<=pb) (hmb:w0.heap.size<=mb) (hw:dL w pb mb nv t.root S D) (hS:Ff t S) (hd0:d=12-f) (hf:f<=11) (hx:t.dm n=some x) (Q7:n∉S) (uH:x.leaf=true) :
  Calls Tryz.prog 116 #[.pointer (some ⟨pb,0,none⟩), .int .i64 n, .int .i64 lo, .int .i64 hi, .int .i64 d] w (nz pb mb nv t.root (dQ t (f+1) n lo hi (S,D)) w):=by
 have Mr:(D=0\/D=d)/\mC t n x lo hi->dQ t (f+1) n lo hi (S,D)=some (n::S,d):=fun h=>by rw [F6 hx Q7 uH (by rw [<-hd0];exact h.1) h.2,hd0]
 have hno:¬((D=0\/D=d)/\mC t n x lo hi)->dQ t (f+1) n lo hi (S,D)=none:=fun h=>BZ hx uH (by rw [<-hd0];exact h)
 obtain⟨hn0,Cm,tW⟩:=ve hx
 obtain⟨j,hj⟩:∃j:Nat,n=j:=⟨n.toNat,af⟩
 subst hj
 rw [Int.toNat_natCast]at Cm tW
 have hd1:1<=d:=af
 have hd2:d<=12:=af
 obtain⟨nb,gL,c,ev,kv,dv,bv,rfl,hnb,hE,hK,hD,hB,c0,c1,c2,c3,c4⟩:=pO h0 hb0 tW
 have hlen:=h0.len.2
 obtain⟨ae,ne,rfl⟩:=hE.isSlice
 obtain⟨ak,nk,rfl⟩:=hK.isSlice
 obtain⟨ad,tV,rfl⟩:=hD.isSlice
 obtain⟨ab,oQ,rfl⟩:=hB.isSlice
 obtain⟨LK,JA,p0,p1,p2,p3,Ov,eD⟩:=hw
 have hbz:=hb0.size
 have l1:=hE.len aY
 have l2:=hK.len aY
 have l3:=hD.len aY
 have l4:=hB.len aY
 have hSl:=hS.le
 rw [uH]at c0
 have aaQ:=eD.lt
 have yg:nb≠mb:=af
 have hnp:nb≠pb:=af
 have xo:=eD.look (n:=(j:Int)) (by unfold i64;omega)
 rw [show decide ((j:Int)∈S)=false by simp [Q7]]at xo
 have hkey:keyOf Tryz.prog 3 (.int .i64 (j:Int))=some (.int .i64 (j:Int)):=keyOf_int_mk Tryz.underlying3 (wf_i64 (by unfold i64;omega))
 have HE:=hdd fun w' (hb:ah w0 w')=>yO (lo:=lo) (hi:=hi) (hE.below hb aI)
 have qF:=hdd (Gf (t:=t) (n:=(j:Int)) (x:=x) (lo:=lo) (hi:=hi))
 have acw:=hdd fun(h:x.aF.length=0)=>(show qp x.aF lo hi=true by rw [xQ h];exact pW.2 (tH lo hi))
 have Hy:=hdd Mr
 have nH:=hdd hno
 clear h0 hE hK hD hB hx hn0 Q7 Mr hno uH hd0 hS
 generalize x.aF.length=le at *
 generalize x.keys.length=lk at *
 generalize x.kids.length=ld at *
 generalize x.buf.length=lb at *
 generalize qp x.aF lo hi=be at *
 go_enter Tryz.func116,Tryz.ntmps116
 go_upto_region 4 with (first|(at_mapUpdate;refine wpList_mapUpdate_own _ rfl _ _ _ 175 rfl 3 4 Tryz.zb Tryz.underlying175 _ mb S.length (qQ S) rfl eD (by unfold maxLen;omega) _ _ (.int .i64 (j:Int)) rfl rfl hkey (.lit (.bool true)) [] (plainElem_bool Tryz.underlying4 true) ?_;intro w1 hown1 hgrow1))
 have ht1:aw (Own2 pb mb) w w1:=(aw.refl _ _).grown hgrow1 (fun k hk=>by cases hk;exact .inl (.inr rfl))
 have zk:jw w1 mb ((j:Int)::S):=jw.put hown1 rfl
 have gz:w.heap.size<=w1.heap.size:=hgrow1.size
 have gc:∀b,b≠mb->b<w.heap.size->∀o,w1.cell? ⟨b,o,none⟩=w.cell? ⟨b,o,none⟩:=fun b h1 h2 o=>World.cell?_of_block (hgrow1.block b h2 (fun e=>h1 (dt e.symm).symm))
 have gf:∀b,b≠mb->b<w.heap.size->∀o,w1.frozen? ⟨b,o,none⟩=w.frozen? ⟨b,o,none⟩:=fun b h1 h2 o=>World.frozen?_of_block (hgrow1.block b h2 (fun e=>h1 (dt e.symm).symm))
 have zr:nb<w.heap.size:=af
 have p0:=(gc pb JA LK 0).trans p0
 have p1:=(gc pb JA LK 1).trans p1
 have p2:=(gc pb JA LK 2).trans p2
 have p3:=(gc pb JA LK 3).trans p3
 have Ov:=fun o=>(gf pb JA LK o).trans (Ov o)
 have c0:=(gc nb yg zr _).trans c0
 have c1:=(gc nb yg zr _).trans c1
 have c2:=(gc nb yg zr _).trans c2
 have c3:=(gc nb yg zr _).trans c3
 have c4:=(gc nb yg zr _).trans c4
 have Sl:pb<w1.heap.size:=af
 clear gc gf hgrow1 hown1 xo eD hkey
 have hb1:ah w0 w1:=ht1.below hb0 hbz (fun i hi=>by rcases hi with rfl|rfl <;> omega)
 go_upto_region 5 with (fail)
 obtain⟨W2,hW2⟩:=bR (w1.alloc (.cells #[.bool true, .slice ae le ne, .slice ak lk nk, .slice ad ld tV, .slice ab lb oQ] 125))
 have tW:aw (fun _=>False) w1 W2:=by rw [hW2];exact(aw.refl _ _).alloc _
 have k1:W2.heap[w1.heap.size]?=some (.cells #[.bool true, .slice ae le ne, .slice ak lk nk, .slice ad ld tV, .slice ab lb oQ] 125):=by
  rw [hW2];exact aq _ _ rfl
 have hw2:dL W2 pb mb (.slice (some ⟨nb,gL,none⟩) t.nodes.length c) t.root ((j:Int)::S) D:=
  (⟨Sl,JA,p0,p1,p2,p3,Ov,zk⟩:dL w1 pb mb _ t.root ((j:Int)::S) D).turn tW (fun h=>h) (fun h=>h)
 have ht2:aw (Own2 pb mb) w W2:=ht1.trans (tW.mono (fun _ _ h=>h.elim))
 have hb2:ah w0 W2:=ht2.below hb0 hbz (fun i hi=>by rcases hi with rfl|rfl <;> omega)
 have hz1:w1.heap.size<W2.heap.size:=(eP.1 k1).1
 rw [<-hW2]
 clear hW2 tW p0 p1 p2 p3 Ov c0 c1 c2 c3 c4 zk hb1 hb0
 obtain⟨D3,Vn⟩:=bR ((if D=0 then d else D))
 obtain⟨x0,x1,x2,x3,x4⟩:W2.cell? ⟨w1.heap.size,0,none⟩=some (.bool true)/\W2.cell? ⟨w1.heap.size,1,none⟩=some (.slice ae le ne)/\W2.cell? ⟨w1.heap.size,2,none⟩=some (.slice ak lk nk)/\W2.cell? ⟨w1.heap.size,3,none⟩=some (.slice ad ld tV)/\W2.cell? ⟨w1.heap.size,4,none⟩=some (.slice ab lb oQ):=by
  simp [World.cell?,k1]
 have q3:=hw2.c3
 have qlt:=hw2.lt
 have qfr:=hw2.fr
 have HW:=hdd hw2
 clear hw2
 go_upto_if 59 with (fail)
 go_cut [] (fun wx=>aw (Own2 pb mb) W2 wx/\(∀o,wx.cell? ⟨w1.heap.size,o,none⟩=W2.cell? ⟨w1.heap.size,o,none⟩)/\Hid (dL wx pb mb (.slice (some ⟨nb,gL,none⟩) t.nodes.length c) t.root ((j:Int)::S) D3))
 case first=>
  by_cases g0:D=0
  ·subst g0
   rw [ar rfl]at Vn
   subst Vn
   go_wp2
   go_meet
   exact⟨(aw.refl _ _).setCell (.inl (.inl rfl)) _,fun o=>World.cell?_setCell_other _ _ _ _ bt,hdd (HW.out.ZX _)⟩
  ·rw [ai g0]at Vn
   subst Vn
   go_wp2
   go_meet
   exact⟨aw.refl _ _,fun o=>rfl,HW⟩
 case rest=>
  obtain⟨Ox,hsame,Zn⟩:=hcut
  have y1:=(hsame 1).trans x1
  have y2:=(hsame 2).trans x2
  have y3:=(hsame 3).trans x3
  have y4:=(hsame 4).trans x4
  have z1:=Zn.out.c1
  have z3:=Zn.out.c3
  have hb3:ah w0 wc:=Ox.below hb2 hb2.size (fun i hi=>by rcases hi with rfl|rfl <;> omega)
  have N3:=hdd (ht2.trans Ox)
  have Oj:=hdd (HE.out wc hb3)
  have HD3:=hdd Vn
  clear x0 x1 x2 x3 x4 k1 hb2 hb3 ht2 Ox hsame HE Vn q3 qlt qfr p0 p1 p2 p3 Ov c0 c1 c2 c3 c4 hnp hpb hmb
  by_cases g0:D3=d
  ·have hd:D=0\/D=d:=by
    have:=HD3.out
    by_cases h:D=0
    ·exact .inl h
    ·rw [ai h]at this;right;omega
   subst g0
   have e0:(D3 == D3)=true:=bt
   by_cases g1:lk+ld+lb=0
   ·obtain⟨rfl,rfl,rfl⟩:lk=0/\ld=0/\lb=0:=af
    by_cases g2:le<=6
    ·by_cases g3:le=0
     ·subst g3
      have TC:be=true:=acw.out rfl
      subst TC
      by_cases g4:(j:Int)=t.root
      ·have HR:=hdd (Hy.out ⟨hd,qF.out.2 ⟨af,af,fun _=>g4,rfl⟩⟩)
       have dr:((j:Int) == t.root)=true:=by simp [g4]
       clear g1 g2 g4 hd
       go_wp2_with ((go_at_call 123;(with_reducible refine Oj.out.mono ?_);rintro e' w4 ⟨rfl,BE⟩))
       go_ret
       rw [HR.out]
       exact tB (N3.out.trans (aw.of BE aI)) rfl (Zn.out.turn (X:=fun _=>False) (aw.of BE aI) (fun h=>h) (fun h=>h))
      ·have HR:=hdd (nH.out (fun h=>g4 ((qF.out.1 h.2).2.2.1 rfl)))
       have dr:((j:Int) == t.root)=false:=by simp [g4]
       clear g1 g2 g4 hd
       go_wp2
       go_ret
       rw [HR.out]
       exact bZ N3.out rfl
     ·have g3':0<le:=af
      cases be with
      |true=>
       have HR:=hdd (Hy.out ⟨hd,qF.out.2 ⟨af,af,fun h=>absurd h g3,rfl⟩⟩)
       clear g1 hd
       go_wp2_with ((go_at_call 123;(with_reducible refine Oj.out.mono ?_);rintro e' w4 ⟨rfl,BE⟩))
       go_ret
       rw [HR.out]
       exact tB (N3.out.trans (aw.of BE aI)) rfl (Zn.out.turn (X:=fun _=>False) (aw.of BE aI) (fun h=>h) (fun h=>h))
      |false=>
       have HR:=hdd (nH.out (fun h=>by have:=(qF.out.1 h.2).2.2.2;cases this))
       clear g1 hd
       go_wp2_with ((go_at_call 123;(with_reducible refine Oj.out.mono ?_);rintro e' w4 ⟨rfl,BE⟩))
       go_ret
       rw [HR.out]
       exact bZ (N3.out.trans (aw.of BE aI)) rfl
    ·have HR:=hdd (nH.out (fun h=>g2 (qF.out.1 h.2).2.1))
     have g2':6<le:=af
     clear g1 g2 hd
     go_wp2
     go_ret
     rw [HR.out]
     exact bZ N3.out rfl
   ·have HR:=hdd (nH.out (fun h=>g1 (qF.out.1 h.2).1))
    by_cases g5:lk=0
    ·by_cases g6:ld=0
     ·have g7:0<lb:=af
      clear g1 hd
      go_wp2
      go_ret
      rw [HR.out]
      exact bZ N3.out rfl
     ·have g7:0<ld:=af
      clear g1 hd
      go_wp2
      go_ret
      rw [HR.out]
      exact bZ N3.out rfl
    ·have g7:0<lk:=af
     clear g1 hd
     go_wp2
     go_ret
     rw [HR.out]
     exact bZ N3.out rfl
  ·have HR:=hdd (nH.out (fun h=>by
    have:=HD3.out
    rcases h.1 with h0|h0
    ·rw [ar h0]at this;exact g0 this
    ·by_cases h1:D=0
     ·rw [ar h1]at this;exact g0 this
     ·rw [ai h1]at this;exact g0 (this.trans h0)))
   have e0:(D3 == d)=false:=by simp [g0]
   go_wp2
   go_ret
   rw [HR.out]
   exact bZ N3.out rfl
end
section
set_option maxRecDepth 100000
set_option maxHeartbeats 2000000
variable {pb mb:Nat} {t:Tr} {nv:Value} {w0:World}
theorem F4 (h0:bz w0 nv t.nodes) {f:Nat} {n lo hi d:Int} {S:List Int} {D:Int} {w:World} {x:Nd} (hb0:ah w0 w) (hpb:w0.heap.size<=pb) (hmb:w0.heap.size<=mb) (hw:dL w pb mb nv t.root S D) (hS:Ff t S) (hd0:d=12-f) (hf:f<=11)
  (IH:∀(n lo hi d:Int) (S:List Int) (D:Int) (w:World),d=13-f->ah w0 w->dL w pb mb nv t.root S D->Ff t S ->
   Calls Tryz.prog 116 #[.pointer (some ⟨pb,0,none⟩), .int .i64 n, .int .i64 lo, .int .i64 hi, .int .i64 d] w (nz pb mb nv t.root (dQ t f n lo hi (S,D)) w))
  (hx:t.dm n=some x) (Q7:n∉S) (uH:x.leaf=false) :
  Calls Tryz.prog 116 #[.pointer (some ⟨pb,0,none⟩), .int .i64 n, .int .i64 lo, .int .i64 hi, .int .i64 d] w (nz pb mb nv t.root (dQ t (f+1) n lo hi (S,D)) w):=by
 have Mr:qq x lo hi->dQ t (f+1) n lo hi (S,D)=ni (fun k a b s=>dQ t f k a b s) x lo hi x.kids 0 (n::S,D):=fun h=>Dq hx Q7 uH h
 have hno:¬qq x lo hi->dQ t (f+1) n lo hi (S,D)=none:=fun h=>Aq hx uH h
 have hS1:Ff t (n::S):=hS.cons Q7 hx
 obtain⟨hn0,Cm,tW⟩:=ve hx
 obtain⟨j,hj⟩:∃j:Nat,n=j:=⟨n.toNat,af⟩
 subst hj
 rw [Int.toNat_natCast]at Cm tW
 have hd1:1<=d:=af
 have hd2:d<=12:=af
 obtain⟨nb,gL,c,ev,kv,dv,bv,rfl,hnb,hE,hK,hD,hB,c0,c1,c2,c3,c4⟩:=pO h0 hb0 tW
 have hlen:=h0.len.2
 obtain⟨ae,ne,rfl⟩:=hE.isSlice
 obtain⟨ak,nk,rfl⟩:=hK.isSlice
 obtain⟨ad,tV,rfl⟩:=hD.isSlice
 obtain⟨ab,oQ,rfl⟩:=hB.isSlice
 obtain⟨LK,JA,p0,p1,p2,p3,Ov,eD⟩:=hw
 have hbz:=hb0.size
 have l1:=hE.len aY
 have l2:=hK.len aY
 have l3:=hD.len aY
 have l4:=hB.len aY
 have hSl:=hS.le
 rw [uH]at c0
 have aaQ:=eD.lt
 have yg:nb≠mb:=af
 have hnp:nb≠pb:=af
 have xo:=eD.look (n:=(j:Int)) (by unfold i64;omega)
 rw [show decide ((j:Int)∈S)=false by simp [Q7]]at xo
 have hkey:keyOf Tryz.prog 3 (.int .i64 (j:Int))=some (.int .i64 (j:Int)):=keyOf_int_mk Tryz.underlying3 (wf_i64 (by unfold i64;omega))
 have HE:=hdd fun w' (hb:ah w0 w')=>yO (lo:=lo) (hi:=hi) (hB.below hb aI)
 have qF:=hdd (JR (x:=x) (lo:=lo) (hi:=hi))
 have Hy:=hdd Mr
 have nH:=hdd hno
 have UJ:=hdd IH
 have Yw:=hdd hd0
 have Aa:=hdd hS1
 have HKEY:=hdd fun w' (hb:ah w0 w') (i:Nat) (y:Int) (hy:x.keys[i]?=some y)=>gy.get (hK.below hb aI) hy
 have xS:=hdd fun w' (hb:ah w0 w') (i:Nat) (y:Int) (hy:x.kids[i]?=some y)=>gy.get (hD.below hb aI) hy
 clear h0 hE hK hD hB hx hn0 Q7 Mr hno uH hd0 hS hS1 IH
 obtain⟨lk,hlk⟩:=bC (x.keys.length)
 obtain⟨ld,MI⟩:=bC (x.kids.length)
 have Og:=hdd hlk
 have QD:=hdd MI
 clear hlk MI
 generalize x.aF.length=le at *
 generalize x.buf.length=lb at *
 generalize qp x.buf lo hi=be at *
 rw [Og.out]at c2 l2 qF
 rw [QD.out]at c3 l3 qF
 go_enter Tryz.func116,Tryz.ntmps116
 go_upto_region 4 with (first|(at_mapUpdate;refine wpList_mapUpdate_own _ rfl _ _ _ 175 rfl 3 4 Tryz.zb Tryz.underlying175 _ mb S.length (qQ S) rfl eD (by unfold maxLen;omega) _ _ (.int .i64 (j:Int)) rfl rfl hkey (.lit (.bool true)) [] (plainElem_bool Tryz.underlying4 true) ?_;intro w1 hown1 hgrow1))
 have ht1:aw (Own2 pb mb) w w1:=(aw.refl _ _).grown hgrow1 (fun k hk=>by cases hk;exact .inl (.inr rfl))
 have zk:jw w1 mb ((j:Int)::S):=jw.put hown1 rfl
 have gz:w.heap.size<=w1.heap.size:=hgrow1.size
 have gc:∀b,b≠mb->b<w.heap.size->∀o,w1.cell? ⟨b,o,none⟩=w.cell? ⟨b,o,none⟩:=fun b h1 h2 o=>World.cell?_of_block (hgrow1.block b h2 (fun e=>h1 (dt e.symm).symm))
 have gf:∀b,b≠mb->b<w.heap.size->∀o,w1.frozen? ⟨b,o,none⟩=w.frozen? ⟨b,o,none⟩:=fun b h1 h2 o=>World.frozen?_of_block (hgrow1.block b h2 (fun e=>h1 (dt e.symm).symm))
 have zr:nb<w.heap.size:=af
 replace p0:=(gc pb JA LK 0).trans p0
 replace p1:=(gc pb JA LK 1).trans p1
 replace p2:=(gc pb JA LK 2).trans p2
 replace p3:=(gc pb JA LK 3).trans p3
 replace Ov:=fun o=>(gf pb JA LK o).trans (Ov o)
 replace c0:=(gc nb yg zr _).trans c0
 replace c1:=(gc nb yg zr _).trans c1
 replace c2:=(gc nb yg zr _).trans c2
 replace c3:=(gc nb yg zr _).trans c3
 replace c4:=(gc nb yg zr _).trans c4
 have Sl:pb<w1.heap.size:=af
 clear gc gf hgrow1 hown1 xo eD hkey
 have hb1:ah w0 w1:=ht1.below hb0 hbz (fun i hi=>by rcases hi with rfl|rfl <;> omega)
 go_upto_region 5 with (fail)
 obtain⟨W2,hW2⟩:=bR (w1.alloc (.cells #[.bool false, .slice ae le ne, .slice ak lk nk, .slice ad ld tV, .slice ab lb oQ] 125))
 have S6:aw (fun _=>False) w1 W2:=by rw [hW2];exact(aw.refl _ _).alloc _
 have k1:W2.heap[w1.heap.size]?=some (.cells #[.bool false, .slice ae le ne, .slice ak lk nk, .slice ad ld tV, .slice ab lb oQ] 125):=by
  rw [hW2];exact aq _ _ rfl
 have hw2:dL W2 pb mb (.slice (some ⟨nb,gL,none⟩) t.nodes.length c) t.root ((j:Int)::S) D:=
  (⟨Sl,JA,p0,p1,p2,p3,Ov,zk⟩:dL w1 pb mb _ t.root ((j:Int)::S) D).turn S6 (fun h=>h) (fun h=>h)
 have ht2:aw (Own2 pb mb) w W2:=ht1.trans (S6.mono (fun _ _ h=>h.elim))
 have hb2:ah w0 W2:=ht2.below hb0 hbz (fun i hi=>by rcases hi with rfl|rfl <;> omega)
 have hz1:w1.heap.size<W2.heap.size:=(eP.1 k1).1
 rw [<-hW2]
 clear hW2 S6 p0 p1 p2 p3 Ov c0 c1 c2 c3 c4 zk hb1 hb0 Cm tW
 obtain⟨x0,x1,x2,x3,x4⟩:W2.cell? ⟨w1.heap.size,0,none⟩=some (.bool false)/\W2.cell? ⟨w1.heap.size,1,none⟩=some (.slice ae le ne)/\W2.cell? ⟨w1.heap.size,2,none⟩=some (.slice ak lk nk)/\W2.cell? ⟨w1.heap.size,3,none⟩=some (.slice ad ld tV)/\W2.cell? ⟨w1.heap.size,4,none⟩=some (.slice ab lb oQ):=by
  simp [World.cell?,k1]
 have HW:=hdd hw2
 have rI:=hdd ht2
 have Oj:=hdd (HE.out W2 hb2)
 have hwl:IntKind.i64.wrap ((ld:Int)-1)=(ld:Int)-1:=IntWalk.i64_in _ af
 clear hw2 HE
 by_cases hok:qq x lo hi
 ·have HR:=hdd (Hy.out hok)
  obtain⟨e1,e2,e3,e4,e5,e6⟩:=qF.out.1 hok
  subst e1 e6
  have d3:((lk:Int) != (ld:Int)-1)=false:=by simp;omega
  have e4a:lk+1<=ld:=af
  have e4b:ld<=lk+1:=af
  clear hok e4
  go_upto_region 11 with ((go_at_call 123;(with_reducible refine Oj.out.mono ?_);rintro e' w4 ⟨rfl,BE⟩))
  have k4:w4.heap[w1.heap.size]?=_:=(BE.block _ hz1).trans k1
  have YU:w1.heap.size<w4.heap.size:=(eP.1 k4).1
  have U9:aw (fun _=>False) W2 w4:=aw.of BE aI
  have hb4:ah w0 w4:=Below.trans' hb2 BE hb2.size
  have HW4:=hdd (HW.out.turn U9 (fun h=>h) (fun h=>h))
  have HC:=hdd fun wr (ht:aw (Own2 pb mb) w4 wr)=>(by
   have b1:wr.heap[w1.heap.size]?=_:=(ht.block _ YU (fun h=>by rcases h with h|h <;> omega)).trans k4
   simp [World.cell?,b1] :
   wr.cell? ⟨w1.heap.size,2,none⟩=some (.slice ak lk nk)/\wr.cell? ⟨w1.heap.size,3,none⟩=some (.slice ad ld tV))
  have HB:=hdd fun wr (ht:aw (Own2 pb mb) w4 wr)=>(aw.below (B:=w0.heap.size) ht hb4 hb4.size (fun i hi=>by rcases hi with rfl|rfl <;> omega):ah w0 wr)
  have HT:=hdd fun wr (ht:aw (Own2 pb mb) w4 wr)=>((rI.out.trans (U9.mono (fun _ _ h=>h.elim))).trans ht:aw (Own2 pb mb) w wr)
  clear x0 x1 x2 x3 x4 k1 k4 hb2 hb4 ht1 ht2 U9 BE Oj nH Hy qF HW rI hwl d3
  obtain⟨u2,u3⟩:=HC.out w4 (aw.refl _ _)
  go_wp2_with fail
  clear u2 u3
  go_loopg [159] ld (fun g i wr=>∃(k:Nat) (S':List Int) (D':Int),k<=ld/\g=ld-k/\i = .int .i64 k/\Hid (Ff t S') /\
   Hid (dQ t (f+1) (j:Int) lo hi (S,D)=ni (fun k a b s=>dQ t f k a b s) x lo hi (x.kids.drop k) k (S',D'))/\aw (Own2 pb mb) w4 wr/\Hid (dL wr pb mb (.slice (some ⟨nb,gL,none⟩) t.nodes.length c) t.root S' D'))
  case atStart=>exact⟨0,(j:Int)::S,D,jf _,rfl,rfl,Aa,hdd (by rw [HR.out];rfl),aw.refl _ _,HW4⟩
  case round=>
   obtain⟨k,S',D',hk,rfl,rfl,HS',X8,ht,HW'⟩:=hrel
   obtain⟨p2,p3⟩:=HC.out _ ht
   by_cases hlt':k<ld
   ·obtain⟨K,hK⟩:∃K,x.kids[k]?=some K:=⟨x.kids[k]'(by rw [QD.out];exact hlt'),bt⟩
    obtain⟨kb,Ar,V8,ke,hkb,hkc⟩:=xS.out _ (HB.out _ ht) k K hK
    injection ke with V7 V6 V4
    subst V7 V4
    obtain⟨F,hF⟩:=bC (x.from lo k)
    obtain⟨T,hT⟩:=bC (x.upto hi k)
    have rJ:=hdd (X8.out.trans (Gi (by rw [QD.out];exact hlt')))
    have hKe:x.kids[k]'(by rw [QD.out];exact hlt')=K:=(gJ.1 hK).2
    rw [hKe,hF,hT]at rJ
    have ah0:lk<=ld:=af
    have HUP:Hid ((k<lk->x.keys[k]?=some T)/\(¬k<lk->T=hi)):=hdd ⟨fun h=>by
      have hlk:k<x.keys.length:=by have:=Og.out;omega
      rw [<-hT];simp [Nd.upto,hlk],fun h=>by
      have hlk:¬k<x.keys.length:=by have:=Og.out;omega
      rw [<-hT];simp [Nd.upto,hlk]⟩
    have HFR:Hid ((0<k->x.keys[k-1]?=some F)/\(k=0->F=lo)):=hdd ⟨fun h=>by
      have hlk:k-1<x.keys.length:=by have:=Og.out;omega
      have ie:k≠0:=af
      rw [<-hF];simp [Nd.from,ie,hlk],fun h=>by
      rw [<-hF];simp [Nd.from,h]⟩
    clear hK hT hF hKe
    go_upto_if 167 with (fail)
    go_cut [14] (fun v wx=>v = .int .i64 F/\wr=wx)
    case first=>
     by_cases hk2:0<k
     ·obtain⟨b2,LW,cap2,e2,J5,hc2⟩:=HKEY.out _ (HB.out _ ht) (k-1) F (HFR.out.1 hk2)
      injection e2 with f1 f2 f3
      subst f1 f3
      have lA:=fun w=>lO (ab:=b2) (bp:=LW) (n:=lk) (cap:=nk) (show (k:Int)-1=((k-1:Nat):Int) by omega) af w
      have hw1:IntKind.i64.wrap ((k:Int)-1)=(k:Int)-1:=IntWalk.i64_in _ af
      rw [Og.out]at *
      clear f2 V6
      go_wp2
      go_meet
      exact⟨rfl,rfl⟩
     ·obtain rfl:k=0:=af
      have HTE:=hdd (HFR.out.2 rfl)
      clear V6
      go_wp2
      go_meet
      exact⟨by rw [HTE.out],rfl⟩
    case rest=>
     obtain⟨rfl,rfl⟩:=hcut
     go_upto_if 178 with (fail)
     go_cut [15] (fun v wx=>v = .int .i64 T/\wr=wx)
     case first=>
      by_cases hk2:k<lk
      ·obtain⟨b2,LW,cap2,e2,J5,hc2⟩:=HKEY.out _ (HB.out _ ht) k T (HUP.out.1 hk2)
       injection e2 with f1 f2 f3
       subst f1 f3
       clear f2 V6
       go_wp2
       go_meet
       exact⟨rfl,rfl⟩
      ·have HTE:=hdd (HUP.out.2 hk2)
       clear V6
       go_wp2
       go_meet
       exact⟨by rw [HTE.out],rfl⟩
     case rest=>
      obtain⟨rfl,rfl⟩:=hcut
      clear p2 p3 V6
      by_cases g1:F<T/\lo<=F/\T<=hi
      ·have HD1:=hdd (show d+1=13-f by have:=Yw.out;omega)
       have hwd:IntKind.i64.wrap (d+1)=d+1:=IntWalk.i64_in _ af
       have kZ:=hdd (UJ.out K F T (d+1) S' D' wr HD1.out (HB.out _ ht) HW'.out HS'.out)
       obtain⟨a1,a2,a3⟩:=g1
       cases hR:dQ t f K F T (S',D') with
       |none=>
        have tY:=hdd (show dQ t (f+1) (j:Int) lo hi (S,D)=none by rw [rJ.out,ar ⟨a1,a2,a3⟩];simp only [hR])
        rw [hR]at kZ
        clear hR
        go_wp2_with ((go_at_call 116;(with_reducible refine kZ.out.mono ?_);rintro e w5 ⟨qo,rfl⟩))
        go_ret
        rw [tY.out]
        exact bZ ((HT.out _ ht).trans qo) rfl
       |some p=>
        obtain⟨S2,D2⟩:=p
        have OS:=hdd (show dQ t (f+1) (j:Int) lo hi (S,D)=ni (fun k a b s=>dQ t f k a b s) x lo hi (x.kids.drop (k+1)) (k+1) (S2,D2) by rw [rJ.out,ar ⟨a1,a2,a3⟩];simp only [hR])
        have X6:=hdd (show Ff t S2 from Dp f K F T (S',D') (S2,D2) HS'.out hR)
        rw [hR]at kZ
        clear hR
        go_wp2_with ((go_at_call 116;(with_reducible refine kZ.out.mono ?_);rintro e w5 ⟨qo,rfl,qw⟩))
        go_roundg (ld-(k+1))
        case measure=>omega
        case rel=>exact⟨k+1,S2,D2,af,rfl,by go_num,X6,OS,ht.trans qo,hdd qw⟩
      ·have tY:=hdd (show dQ t (f+1) (j:Int) lo hi (S,D)=none by rw [rJ.out,ai g1])
       by_cases a1:F<T
       ·by_cases a2:lo<=F
        ·have a3:hi<T:=af
         clear g1
         go_wp2
         go_ret
         rw [tY.out]
         exact bZ (HT.out _ ht) rfl
        ·have a2':F<lo:=af
         clear g1
         go_wp2
         go_ret
         rw [tY.out]
         exact bZ (HT.out _ ht) rfl
       ·have a1':T<=F:=af
        clear g1
        go_wp2
        go_ret
        rw [tY.out]
        exact bZ (HT.out _ ht) rfl
   ·have H0:=hdd (X8.out.trans (JN (by rw [QD.out];omega)))
    go_wp2
    go_ret
    rw [H0.out]
    exact tB (HT.out _ ht) rfl HW'.out
 ·have HR:=hdd (nH.out hok)
  have GH:=qF.out
  by_cases g1:le=0
  ·subst g1
   by_cases g2:ld<=4
   ·by_cases g2':2<=ld
    ·by_cases g3:lk+1=ld
     ·have d3:((lk:Int) != (ld:Int)-1)=false:=by simp;omega
      by_cases g4:lb<=8
      ·have TC:be=false:=by
        cases be with
        |false=>rfl
        |true=>exact absurd (GH.2 ⟨rfl,g2',g2,g3,g4,rfl⟩) hok
       subst TC
       clear hok GH g3 qF
       go_wp2_with ((go_at_call 123;(with_reducible refine Oj.out.mono ?_);rintro e' w4 ⟨rfl,BE⟩))
       go_ret
       rw [HR.out]
       exact bZ (rI.out.trans (aw.of BE aI)) rfl
      ·have g4':8<lb:=af
       clear hok GH g3 qF
       go_wp2
       go_ret
       rw [HR.out]
       exact bZ rI.out rfl
     ·have d3:((lk:Int) != (ld:Int)-1)=true:=by simp;omega
      clear hok GH g3 qF
      go_wp2
      go_ret
      rw [HR.out]
      exact bZ rI.out rfl
    ·have ahi:ld<2:=af
     clear hok GH qF
     go_wp2
     go_ret
     rw [HR.out]
     exact bZ rI.out rfl
   ·have g2':4<ld:=af
    clear hok GH qF
    go_wp2
    go_ret
    rw [HR.out]
    exact bZ rI.out rfl
  ·have g1':0<le:=af
   clear hok GH qF
   go_wp2
   go_ret
   rw [HR.out]
   exact bZ rI.out rfl
theorem L4 (h0:bz w0 nv t.nodes) (hpb:w0.heap.size<=pb) (hmb:w0.heap.size<=mb):∀(f:Nat),f<=12->∀(n lo hi d:Int) (S:List Int) (D:Int) (w:World),d=13-f->ah w0 w->dL w pb mb nv t.root S D->Ff t S ->
  Calls Tryz.prog 116 #[.pointer (some ⟨pb,0,none⟩), .int .i64 n, .int .i64 lo, .int .i64 hi, .int .i64 d] w (nz pb mb nv t.root (dQ t f n lo hi (S,D)) w):=by
 intro f
 induction f with
 |zero=>intro _ n lo hi d S D w hd hb hw hS;exact yT h0 hw hd af (.inl rfl)
 |succ f ih=>
  intro hf n lo hi d S D w hd hb hw hS
  cases hx:t.dm n with
  |none=>exact yT h0 hw hd hf (.inr (.inl hx))
  |some x=>
   by_cases hn:n∈S
   ·exact yT h0 hw hd hf (.inr (.inr hn))
   ·cases hl:x.leaf with
    |true=>exact JF h0 hb hpb hmb hw hS af af hx hn hl
    |false=>exact F4 h0 hb hpb hmb hw hS af af (fun n lo hi d S D w=>ih af n lo hi d S D w) hx hn hl
end
section
set_option maxRecDepth 100000
set_option maxHeartbeats 1000000
theorem js {v:Value} {t:Tr} {w:World} (h:bN w v t) :
  Calls Tryz.prog 107 #[v] w fun e w'=>e = .returned (.int .i64 (ax t))/\ah w w':=by
 obtain⟨nv,rfl,hn⟩:=h
 rw [<-Km]
 obtain⟨⟨ao,cap,rfl⟩,hlen⟩:=hn.len
 by_cases hbig:2000<t.nodes.length
 ·have HR:=hdd (show tK t=1 from ar hbig)
  go_enter Tryz.func107,Tryz.ntmps107
  go_wp2
  go_ret
  exact⟨ia HR.out.symm,(by repeat (first|exact aL _ _|assumption|refine cC ?_ _|refine Below.drew ?_|refine Below.alloc ?_ (by first|omega|(simp;done)|(simp;omega)) _|refine Below.setCell ?_ (by first|omega|(simp;done)|(simp;omega)) _))⟩
 ·have hsm:t.nodes.length<=2000:=af
  have HR:=hdd (show tK t=_ from ai hbig)
  have hmm:=@run_makeMap Tryz.prog
  clear hbig
  go_enter Tryz.func107,Tryz.ntmps107
  go_upto_region 4 with (fail)
  obtain⟨W3,hW3⟩:=bR (((w.alloc (.cells #[.slice ao t.nodes.length cap, .int .i64 t.root] 27)).alloc (.map #[] 0)).alloc (.cells #[.slice ao t.nodes.length cap, .int .i64 t.root, .map (some (w.heap.size+1)), .int .i64 0] 177))
  have hb3:ah w W3:=by rw [hW3];exact(by repeat (first|exact aL _ _|assumption|refine cC ?_ _|refine Below.drew ?_|refine Below.alloc ?_ (by first|omega|(simp;done)|(simp;omega)) _|refine Below.setCell ?_ (by first|omega|(simp;done)|(simp;omega)) _))
  have hz3:W3.heap.size=w.heap.size+1+1+1:=by rw [hW3];simp
  have k0:W3.heap[w.heap.size]?=some (.cells #[.slice ao t.nodes.length cap, .int .i64 t.root] 27):=by
   rw [hW3,lI _ _ _ (by simp;omega),lI _ _ _ bt];exact aq _ _ rfl
  have k2:W3.heap[w.heap.size+1+1]?=some (.cells #[.slice ao t.nodes.length cap, .int .i64 t.root, .map (some (w.heap.size+1)), .int .i64 0] 177):=by
   rw [hW3];exact aq _ _ bt
  have eD:jw W3 (w.heap.size+1) []:=by
   have h1:=World.ownsMap_made (H:=Unit) (w.alloc (.cells #[.slice ao t.nodes.length cap, .int .i64 t.root] 27)) Tryz.prog 3 (plainElem Tryz.prog 4)
   rw [show (w.alloc (.cells #[.slice ao t.nodes.length cap, .int .i64 t.root] 27)).heap.size=w.heap.size+1 by simp]at h1
   have h2:jw _ (w.heap.size+1) []:=h1
   rw [hW3]
   exact h2.turn (X:=fun _=>False) ((aw.refl _ _).alloc _) (fun h=>h)
  have hw3:dL W3 (w.heap.size+1+1) (w.heap.size+1) (.slice ao t.nodes.length cap) t.root [] 0:=
   ⟨af,af,by simp [World.cell?,k2],by simp [World.cell?,k2],by simp [World.cell?,k2],by simp [World.cell?,k2],fun o=>by simp [World.frozen?,k2],eD⟩
  have q1:W3.cell? ⟨w.heap.size,1,none⟩=some (.int .i64 t.root):=by simp [World.cell?,k0]
  have kZ:=hdd (L4 hn (pb:=w.heap.size+1+1) (mb:=w.heap.size+1) af af 12 aI t.root 0 1099511627776 1 [] 0 W3.drew aY hb3.drew (hw3.turn (X:=fun _=>False) (aw.refl _ _).drew (fun h=>h) (fun h=>h)) ⟨List.nodup_nil,fun y h=>by cases h⟩)
  have HB:=hdd fun w5 (ht:aw (Own2 (w.heap.size+1+1) (w.heap.size+1)) W3.drew w5)=>(ht.below hb3.drew hb3.size (fun i hi=>by rcases hi with rfl|rfl <;> omega):ah w w5)
  have VH:=hdd fun w5 (ht:aw (Own2 (w.heap.size+1+1) (w.heap.size+1)) W3.drew w5)=>(by
   have b0:w5.heap[w.heap.size]?=_:=(ht.block _ (by show w.heap.size<W3.heap.size;omega) (fun h=>by rcases h with h|h <;> omega)).trans k0
   simp [World.cell?,b0]:w5.cell? ⟨w.heap.size,0,none⟩=some (.slice ao t.nodes.length cap)/\w5.cell? ⟨w.heap.size,1,none⟩=some (.int .i64 t.root))
  have hs0:W3.drew.cell? ⟨w.heap.size,0,none⟩=some (.slice ao t.nodes.length cap)/\W3.drew.cell? ⟨w.heap.size,1,none⟩=some (.int .i64 t.root)/\W3.drew.cell? ⟨w.heap.size+1+1,2,none⟩=some (.map (some (w.heap.size+1))):=by
   obtain⟨a,b⟩:=VH.out _ (aw.refl _ _)
   exact⟨a,b,hw3.c2⟩
  rw [<-hW3]
  clear hW3 k0 k2 eD hw3 hmm hn
  have pB:=hdd fun S D=>Dp (t:=t) 12 t.root 0 1099511627776 ([],0) (S,D) ⟨List.nodup_nil,fun y h=>by cases h⟩
  cases hr:dQ t 12 t.root 0 1099511627776 ([],0) with
  |none=>
   rw [hr]at kZ
   have Ya:=hdd (show tK t=7 by rw [HR.out,hr])
   clear hr
   refine fS 3 _ rfl cv cv ?_
   (simp only [List.take_succ_cons,List.take_zero,List.drop_succ_cons,List.drop_zero];(repeat ((with_reducible refine wpStill_step (fun K hK=>?_));go_simp;(with_reducible refine hK _ ?_);clear hK K));(with_reducible refine wpStill_nil ?_))
   intro K hK
   go_simp
   (with_reducible refine kZ.out.mono ?_);rintro e w5 ⟨qo,rfl⟩
   go_simp
   refine hK _ _ ?_
   clear hK K
   ((repeat ((with_reducible refine wpStill_step (fun K hK=>?_));go_simp;(with_reducible refine hK _ ?_);clear hK K));(with_reducible refine wpStill_nil ?_))
   all_goals
    go_wp2
    go_ret
    exact⟨ia Ya.out.symm,HB.out _ qo⟩
  |some p=>
   obtain⟨S,D⟩:=p
   have hok:=pB.out S D hr
   rw [hr]at kZ
   by_cases hl:S.length=t.nodes.length
   ·have Ya:=hdd (show tK t=0 by rw [HR.out,hr];exact ar hl)
    have hl':((S.length:Int) != (t.nodes.length:Int))=false:=by simp [hl]
    have HN:=hdd hok.1
    clear hr hok hl
    refine fS 3 _ rfl cv cv ?_
    (simp only [List.take_succ_cons,List.take_zero,List.drop_succ_cons,List.drop_zero];(repeat ((with_reducible refine wpStill_step (fun K hK=>?_));go_simp;(with_reducible refine hK _ ?_);clear hK K));(with_reducible refine wpStill_nil ?_))
    intro K hK
    go_simp
    (with_reducible refine kZ.out.mono ?_);rintro e w5 ⟨qo,rfl,qw⟩
    have c2:=qw.c2
    obtain⟨c0,-⟩:=VH.out _ qo
    have Vh:=qw.set.len HN.out
    go_simp
    refine hK _ _ ?_
    clear hK K
    ((repeat ((with_reducible refine wpStill_step (fun K hK=>?_));go_simp;(with_reducible refine hK _ ?_);clear hK K));(with_reducible refine wpStill_nil ?_))
    all_goals
     go_wp2
     go_ret
     exact⟨ia Ya.out.symm,HB.out _ qo⟩
   ·have Ya:=hdd (show tK t=7 by rw [HR.out,hr];exact ai hl)
    have hl':((S.length:Int) != (t.nodes.length:Int))=true:=by simp;omega
    have HN:=hdd hok.1
    clear hr hok hl
    refine fS 3 _ rfl cv cv ?_
    (simp only [List.take_succ_cons,List.take_zero,List.drop_succ_cons,List.drop_zero];(repeat ((with_reducible refine wpStill_step (fun K hK=>?_));go_simp;(with_reducible refine hK _ ?_);clear hK K));(with_reducible refine wpStill_nil ?_))
    intro K hK
    go_simp
    (with_reducible refine kZ.out.mono ?_);rintro e w5 ⟨qo,rfl,qw⟩
    have c2:=qw.c2
    obtain⟨c0,-⟩:=VH.out _ qo
    have Vh:=qw.set.len HN.out
    go_simp
    refine hK _ _ ?_
    clear hK K
    ((repeat ((with_reducible refine wpStill_step (fun K hK=>?_));go_simp;(with_reducible refine hK _ ?_);clear hK K));(with_reducible refine wpStill_nil ?_))
    all_goals
     go_wp2
     go_ret
     exact⟨ia Ya.out.symm,HB.out _ qo⟩
end
end Go.Proofs.YtmljjfhgciaceaaGreatDoor
