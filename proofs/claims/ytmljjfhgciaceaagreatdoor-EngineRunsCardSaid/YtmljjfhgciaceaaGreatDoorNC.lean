/- Lemmas of the proof. -/
import Derived.Test.YtmljjfhgciaceaaGreatDoorHd
import Derived.Test.YtmljjfhgciaceaaGreatDoorCz
import Derived.Test.YtmljjfhgciaceaaGreatDoorPA
import Derived.Test.YtmljjfhgciaceaaGreatDoorSR
import Derived.Test.YtmljjfhgciaceaaGreatDoorSX
import Derived.Deep.CutBlock
import Derived.Test.YtmljjfhgciaceaaGreatDoorSO
import Derived.Carry
import Derived.Deep.RegionHeld3
set_option maxRecDepth 100000
set_option maxHeartbeats 2000000
namespace Go.Proofs.YtmljjfhgciaceaaGreatDoor
open Go.RowKit Go.Maps
section
variable {e:Ending} {D:Int} {S:List Int} {pb mb:Nat} {nv:Value} {w w':World}
structure eG (w:World) (pb mb:Nat) (nv:Value) (root:Int) (S:List Int) (D:Int):Prop where
 lt:pb<w
 ne:pb≠mb
 c0:w.cell? (pb,0)=some nv
 c1:w.cell? (pb,1)=some (af root)
 c2:w.cell? (pb,2)=some (.map (some mb))
 c3:w.cell? (pb,3)=some (af D)
 fr:∀o,w.frozen? ⟨pb,o,none⟩=false
 set:kX w mb S
def Own2 (pb mb:Nat) (b:Nat):Prop:=b=pb\/b=mb
theorem eG.turn {root:Int} (h:eG w pb mb nv root S D) {X:Nat->Prop} (ht:aA X w w') (hp:¬X pb) (hm:¬X mb):eG w' pb mb nv root S D:=
 ⟨oI h.lt ht.size,h.ne,(ht.cell h.lt hp 0).trans h.c0,(ht.cell h.lt hp 1).trans h.c1,(ht.cell h.lt hp 2).trans h.c2,(ht.cell h.lt hp 3).trans h.c3,fun o=>(ht.frozen h.lt hp o).trans (h.fr o),h.set.turn ht hm⟩
def qz (pb mb:Nat) (nv:Value) (root:Int) (r:Option (List Int×Int)) (w:World) (e:Ending) (w':World):Prop:=
 aA (Own2 pb mb) w w'/\(match r with|none=>e = .returned (.bool false)|some (S',D')=>e = .returned (.bool true)/\eG w' pb mb nv root S' D')
theorem cS {root:Int} (ht:aA (Own2 pb mb) w w') (he:e = .returned (.bool false)):qz pb mb nv root none w e w':=⟨ht,he⟩
theorem xc {root:Int} (ht:aA (Own2 pb mb) w w') (he:e = .returned (.bool true)) (hw:eG w' pb mb nv root S D):qz pb mb nv root (some (S,D)) w e w':=⟨ht,he,hw⟩
theorem Cn {t:Tr} {w0:World} (h0:bn w0 nv t.nodes) {f:Nat} {n lo hi d:Int} (hw:eG w pb mb nv t.root S D) (hd:d=13-f) (hf:f<=12) (hbad:f=0\/t.dm n=none\/n∈S) :
  Calls Tryz.prog 116 #[.pointer (some (pb,0)),af n,af lo,af hi,af d] w (qz pb mb nv t.root (eO t f n lo hi (S,D)) w):=by
 have hr:eO t f n lo hi (S,D)=none:=by
  cases f with
  |zero=>rfl
  |succ f=>
   rcases hbad with h|h|h
   ·cases h
   ·exact Co h
   ·cases hx:t.dm n with
    |none=>exact Co hx
    |some x=>exact Lf hx h
 rw [hr];obtain⟨⟨ao,c,rfl⟩,hlen⟩:=h0.len;obtain⟨lt,ne,c0,c1,c2,c3,fr,fE⟩:=hw;by_cases hin:t.dm n=none
 ·have hn:=JR hin;clear hr hbad hd hin h0 fr fE;by_cases hn0:n<0
  ·clear hn;go_enter Tryz.func116,Tryz.ntmps116;go_wp2;go_ret;exact cS (aA.refl _ _) rfl
  ·have yu:(t.nodes.length:Int)<=n:=ai;clear hn;go_enter Tryz.func116,Tryz.ntmps116;go_wp2;go_ret;exact cS (aA.refl _ _) rfl
 ·obtain⟨x,hx⟩:=Option.ne_none_iff_exists'.1 hin;obtain⟨hn0,yu,-⟩:=pJ hx;have tT:n<(t.nodes.length:Int):=ai;have Aw:=fE.look (n:=n) (by unfold i64;omega);by_cases hs:n∈S
  ·have hs':decide (n∈S)=true:=by simp [hs]
   rw [hs']at Aw;clear hr hbad hd hin h0 fr fE hs hs' hx;go_enter Tryz.func116,Tryz.ntmps116;go_wp2;go_ret;exact cS (aA.refl _ _) rfl
  ·obtain rfl:f=0:=by rcases hbad with h|h|h;exact h;exact absurd h hin;exact absurd h hs
   have hs':decide (n∈S)=false:=by simp [hs]
   rw [hs']at Aw;have d2:(12:Int)<d:=ai;clear hr hbad hd hin h0 fr fE hs hs' hx;go_enter Tryz.func116,Tryz.ntmps116;go_wp2;go_ret;exact cS (aA.refl _ _) rfl
end
section
variable {n D:Int} {S:List Int} {pb mb:Nat} {nv:Value} {w:World}
theorem kX.put {w1:World} {k:Nat} (h:w1.ownsMap (H:=Unit) Tryz.prog 3 (plainElem Tryz.prog 4) mb k ((ur S).put (.int .i64 n) (.lit (.bool true)))) (hk:k=S.length+1):kX w1 mb (n::S):=by
 subst hk;exact h
theorem eG.afq {root:Int} (h:eG w pb mb nv root S D) (d:Int):eG (w.setCell (pb,3) (af d)) pb mb nv root S d:=by
 have ht:aA (·=pb) w (w.setCell (pb,3) (af d)):=aA.setCell (X:=(·=pb)) (aA.refl _ _) (.inl rfl) _;refine⟨by rw [aG];exact h.lt,h.ne,?_,?_,?_,?_,fun o=>?_,h.set.turn ht h.ne.symm⟩
 ·rw [World.cell?_setCell_other _ _ _ _ bh];exact h.c0
 ·rw [World.cell?_setCell_other _ _ _ _ bh];exact h.c1
 ·rw [World.cell?_setCell_other _ _ _ _ bh];exact h.c2
 ·exact World.cell?_setCell_same' _ _ _ (by rw [h.c3];rfl)
 ·rw [<-h.fr o];simp [World.frozen?,World.setCell,Array.getElem?_modify]
  cases w.heap[pb]? with
  |none=>rfl
  |some o=>cases o <;> rfl
theorem OH {t:Tr} {w0:World} (h0:bn w0 nv t.nodes) {f:Nat} {lo hi d:Int} {x:Nd} (hb0:aq w0 w) (hpb:w0<=pb) (hmb:w0<=mb) (hw:eG w pb mb nv t.root S D) (hS:Ks t S) (hd0:d=12-f) (hf:f<=11) (hx:t.dm n=some x) (Km:n∉S) (mP:x.leaf=true) :
  Calls Tryz.prog 116 #[.pointer (some (pb,0)),af n,af lo,af hi,af d] w (qz pb mb nv t.root (eO t (f+1) n lo hi (S,D)) w):=by
 have CJ:(D=0\/D=d)/\jI t n x lo hi->eO t (f+1) n lo hi (S,D)=some (n::S,d):=fun h=>by rw [Lg hx Km mP (by rw [<-hd0];exact h.1) h.2,hd0]
 have hno:¬((D=0\/D=d)/\jI t n x lo hi)->eO t (f+1) n lo hi (S,D)=none:=fun h=>FN hx mP (by rw [<-hd0];exact h);obtain⟨hn0,yu,tT⟩:=pJ hx;obtain⟨j,hj⟩:∃j:Nat,n=j:=⟨n.toNat,ai⟩;subst hj;rw [Int.toNat_natCast]at yu tT;have hd1:1<=d:=ai;have hd2:d<=12:=ai;obtain⟨nb,fV,c,ev,kv,dv,bv,rfl,hnb,hE,hK,hD,hB,c0,c1,c2,c3,c4⟩:=lG h0 hb0 tT;have hlen:=h0.len.2;obtain⟨ae,ne,rfl⟩:=hE.isSlice;obtain⟨ak,nk,rfl⟩:=hK.isSlice;obtain⟨ad,rV,rfl⟩:=hD.isSlice;obtain⟨ab,oN,rfl⟩:=hB.isSlice;obtain⟨QO,Oz,p0,p1,p2,p3,Tw,fE⟩:=hw;have hbz:=hb0.size;have l1:=hE.len bY;have l2:=hK.len bY;have l3:=hD.len bY;have l4:=hB.len bY;have hSl:=hS.le;rw [mP]at c0;have ags:=fE.lt;have pR:nb≠mb:=ai;have hnp:nb≠pb:=ai;have Aw:=fE.look (n:=(j:Int)) (by unfold i64;omega);rw [show decide ((j:Int)∈S)=false by simp [Km]]at Aw;have hkey:keyOf Tryz.prog 3 (.int .i64 (j:Int))=some (.int .i64 (j:Int)):=keyOf_int_mk Tryz.underlying3 (wf_i64 (by unfold i64;omega));have HE:=ag fun w' (hb:aq w0 w')=>Cg (lo:=lo) (hi:=hi) (hE.below hb aO);have jP:=ag (Cy (t:=t) (n:=(j:Int)) (x:=x) (lo:=lo) (hi:=hi));have ZN:=ag fun(h:x.aI.length=0)=>(show nA x.aI lo hi=true by rw [yX h];exact nL.2 (lJ lo hi));have xE:=ag CJ;have mB:=ag hno;clear h0 hE hK hD hB hx hn0 Km CJ hno mP hd0 hS;generalize x.aI.length=le at *;generalize x.keys.length=lk at *;generalize x.kids.length=ld at *;generalize x.buf.length=lb at *;generalize nA x.aI lo hi=be at *;go_enter Tryz.func116,Tryz.ntmps116;go_upto_region 4 with (first|(at_mapUpdate;refine wpList_mapUpdate_own _ rfl _ _ _ 175 rfl 3 4 Tryz.Cz Tryz.underlying175 _ mb S.length (ur S) rfl fE (by unfold maxLen;omega) _ _ (.int .i64 (j:Int)) rfl rfl hkey (.lit (.bool true)) [] (plainElem_bool Tryz.underlying4 true) ?_;intro w1 hown1 hgrow1));have ht1:aA (Own2 pb mb) w w1:=(aA.refl _ _).grown hgrow1 (fun k hk=>by cases hk;exact .inl (.inr rfl));have CK:kX w1 mb ((j:Int)::S):=kX.put hown1 rfl;have gz:w.heap.size<=w1.heap.size:=hgrow1.size;have gc:∀b,b≠mb->b<w.heap.size->∀o,w1.cell? ⟨b,o,none⟩=w.cell? ⟨b,o,none⟩:=fun b h1 h2 o=>oH (hgrow1.block b h2 (fun e=>h1 (dh e.symm).symm));have gf:∀b,b≠mb->b<w.heap.size->∀o,w1.frozen? ⟨b,o,none⟩=w.frozen? ⟨b,o,none⟩:=fun b h1 h2 o=>World.frozen?_of_block (hgrow1.block b h2 (fun e=>h1 (dh e.symm).symm));have yt:nb<w:=ai;have p0:=(gc pb Oz QO 0).trans p0;have p1:=(gc pb Oz QO 1).trans p1;have p2:=(gc pb Oz QO 2).trans p2;have p3:=(gc pb Oz QO 3).trans p3;have Tw:=fun o=>(gf pb Oz QO o).trans (Tw o);have c0:=(gc nb pR yt _).trans c0;have c1:=(gc nb pR yt _).trans c1;have c2:=(gc nb pR yt _).trans c2;have c3:=(gc nb pR yt _).trans c3;have c4:=(gc nb pR yt _).trans c4;have XF:pb<w1:=ai;clear gc gf hgrow1 hown1 Aw fE hkey;have hb1:aq w0 w1:=ht1.below hb0 hbz (fun i hi=>by rcases hi with rfl|rfl <;> omega)
 go_upto_region 5 with (fail);obtain⟨W2,hW2⟩:=cd (w1.alloc (.cells #[.bool true,ah ae le ne,ah ak lk nk,ah ad ld rV,ah ab lb oN] 125));have tT:aA (fun _=>False) w1 W2:=by rw [hW2];exact(aA.refl _ _).alloc _
 have k1:W2.heap[w1.heap.size]?=some (.cells #[.bool true,ah ae le ne,ah ak lk nk,ah ad ld rV,ah ab lb oN] 125):=by
  rw [hW2];exact au _ _ rfl
 have hw2:eG W2 pb mb (ah (some (nb,fV)) t.nodes c) t.root ((j:Int)::S) D:=
  (⟨XF,Oz,p0,p1,p2,p3,Tw,CK⟩:eG w1 pb mb _ t.root ((j:Int)::S) D).turn tT (fun h=>h) (fun h=>h)
 have ht2:aA (Own2 pb mb) w W2:=ht1.trans (tT.mono (fun _ _ h=>h.elim));have hb2:aq w0 W2:=ht2.below hb0 hbz (fun i hi=>by rcases hi with rfl|rfl <;> omega)
 have hz1:w1<W2.heap.size:=(eJ.1 k1).1;rw [<-hW2];clear hW2 tT p0 p1 p2 p3 Tw c0 c1 c2 c3 c4 CK hb1 hb0;obtain⟨D3,hD3⟩:=cd ((if D=0 then d else D));obtain⟨x0,x1,x2,x3,x4⟩:W2.cell? (w1,0)=some (.bool true)/\W2.cell? (w1,1)=some (ah ae le ne)/\W2.cell? (w1,2)=some (ah ak lk nk)/\W2.cell? (w1,3)=some (ah ad ld rV)/\W2.cell? (w1,4)=some (ah ab lb oN):=by
  simp [World.cell?,k1]
 have q3:=hw2.c3;have qlt:=hw2.lt;have qfr:=hw2.fr;have HW:=ag hw2;clear hw2;go_upto_if 59 with (fail);go_cut [] (fun wx=>aA (Own2 pb mb) W2 wx/\(∀o,wx.cell? ⟨w1.heap.size,o,none⟩=W2.cell? ⟨w1.heap.size,o,none⟩)/\Hid (eG wx pb mb (ah (some (nb,fV)) t.nodes c) t.root ((j:Int)::S) D3))
 case first=>
  by_cases g0:D=0
  ·subst g0;rw [aw rfl]at hD3;subst hD3;go_wp2;go_meet;exact⟨(aA.refl _ _).setCell (.inl (.inl rfl)) _,fun o=>World.cell?_setCell_other _ _ _ _ bh,ag (HW.afq _)⟩
  ·rw [ar g0]at hD3;subst hD3;go_wp2;go_meet;exact⟨aA.refl _ _,fun o=>rfl,HW⟩
 case rest=>
  obtain⟨Ws,hsame,HW3⟩:=hcut;have y1:=(hsame 1).trans x1;have y2:=(hsame 2).trans x2;have y3:=(hsame 3).trans x3;have y4:=(hsame 4).trans x4;have z1:=HW3.out.c1;have z3:=HW3.out.c3;have hb3:aq w0 wc:=Ws.below hb2 hb2.size (fun i hi=>by rcases hi with rfl|rfl <;> omega)
  have S8:=ag (ht2.trans Ws);have GD:=ag (HE wc hb3);have HD3:=ag hD3;clear x0 x1 x2 x3 x4 k1 hb2 hb3 ht2 Ws hsame HE hD3 q3 qlt qfr p0 p1 p2 p3 Tw c0 c1 c2 c3 c4 hnp hpb hmb;by_cases g0:D3=d
  ·have hd:D=0\/D=d:=by
    have:=HD3.out;by_cases h:D=0
    ·exact .inl h
    ·rw [ar h]at this;right;omega
   subst g0;have e0:(D3 == D3)=true:=bh;by_cases g1:lk+ld+lb=0
   ·obtain⟨rfl,rfl,rfl⟩:lk=0/\ld=0/\lb=0:=ai;by_cases g2:le<=6
    ·by_cases g3:le=0
     ·subst g3;have GR:be=true:=ZN rfl;subst GR;by_cases g4:(j:Int)=t.root
      ·have HR:=ag (xE ⟨hd,jP.2 ⟨ai,ai,fun _=>g4,rfl⟩⟩);have dr:((j:Int) == t.root)=true:=(by simp [g4]);clear g1 g2 g4 hd;go_wp2_with ((go_at_call 123;(with_reducible refine GD.out.mono ?_);rintro e' w4 ⟨rfl,BE⟩));go_ret;rw [HR];exact xc (S8.trans (aA.of BE aO)) rfl (HW3.out.turn (X:=fun _=>False) (aA.of BE aO) (fun h=>h) (fun h=>h))
      ·have HR:=ag (mB (fun h=>g4 ((jP.1 h.2).2.2.1 rfl)));have dr:((j:Int) == t.root)=false:=(by simp [g4]);clear g1 g2 g4 hd;go_wp2;go_ret;rw [HR];exact cS S8 rfl
     ·have g3':0<le:=ai
      cases be with
      |true=>
       have HR:=ag (xE ⟨hd,jP.2 ⟨ai,ai,fun h=>absurd h g3,rfl⟩⟩);clear g1 hd;go_wp2_with ((go_at_call 123;(with_reducible refine GD.out.mono ?_);rintro e' w4 ⟨rfl,BE⟩));go_ret;rw [HR];exact xc (S8.trans (aA.of BE aO)) rfl (HW3.out.turn (X:=fun _=>False) (aA.of BE aO) (fun h=>h) (fun h=>h))
      |false=>
       have HR:=ag (mB (fun h=>by have:=(jP.1 h.2).2.2.2;cases this));clear g1 hd;go_wp2_with ((go_at_call 123;(with_reducible refine GD.out.mono ?_);rintro e' w4 ⟨rfl,BE⟩));go_ret;rw [HR];exact cS (S8.trans (aA.of BE aO)) rfl
    ·have HR:=ag (mB (fun h=>g2 (jP.1 h.2).2.1));have g2':6<le:=ai;clear g1 g2 hd;go_wp2;go_ret;rw [HR];exact cS S8 rfl
   ·have HR:=ag (mB (fun h=>g1 (jP.1 h.2).1));by_cases g5:lk=0
    ·by_cases g6:ld=0
     ·have g7:0<lb:=ai;clear g1 hd;go_wp2;go_ret;rw [HR];exact cS S8 rfl
     ·have g7:0<ld:=ai;clear g1 hd;go_wp2;go_ret;rw [HR];exact cS S8 rfl
    ·have g7:0<lk:=ai;clear g1 hd;go_wp2;go_ret;rw [HR];exact cS S8 rfl
  ·have HR:=ag (mB (fun h=>by
    have:=HD3.out;rcases h.1 with h0|h0
    ·rw [aw h0]at this;exact g0 this
    ·by_cases h1:D=0
     ·rw [aw h1]at this;exact g0 this
     ·rw [ar h1]at this;exact g0 (this.trans h0)))
   have e0:(D3 == d)=false:=by simp [g0]
   go_wp2;go_ret;rw [HR];exact cS S8 rfl
end
section
variable {pb mb:Nat} {t:Tr} {nv:Value} {w0:World}
theorem Le (h0:bn w0 nv t.nodes) {f:Nat} {n lo hi d:Int} {S:List Int} {D:Int} {w:World} {x:Nd} (hb0:aq w0 w) (hpb:w0<=pb) (hmb:w0<=mb) (hw:eG w pb mb nv t.root S D) (hS:Ks t S) (hd0:d=12-f) (hf:f<=11)
  (IH:∀(n lo hi d:Int) (S:List Int) (D:Int) (w:World),d=13-f->aq w0 w->eG w pb mb nv t.root S D->Ks t S ->
   Calls Tryz.prog 116 #[.pointer (some (pb,0)),af n,af lo,af hi,af d] w (qz pb mb nv t.root (eO t f n lo hi (S,D)) w))
  (hx:t.dm n=some x) (Km:n∉S) (mP:x.leaf=false) :
  Calls Tryz.prog 116 #[.pointer (some (pb,0)),af n,af lo,af hi,af d] w (qz pb mb nv t.root (eO t (f+1) n lo hi (S,D)) w):=by
 have CJ:mW x lo hi->eO t (f+1) n lo hi (S,D)=qi (fun k a b s=>eO t f k a b s) x lo hi x.kids 0 (n::S,D):=fun h=>Ic hx Km mP h;have hno:¬mW x lo hi->eO t (f+1) n lo hi (S,D)=none:=fun h=>Eb hx mP h;have hS1:Ks t (n::S):=hS.cons Km hx;obtain⟨hn0,yu,tT⟩:=pJ hx;obtain⟨j,hj⟩:∃j:Nat,n=j:=⟨n.toNat,ai⟩;subst hj;rw [Int.toNat_natCast]at yu tT;have hd1:1<=d:=ai;have hd2:d<=12:=ai;obtain⟨nb,fV,c,ev,kv,dv,bv,rfl,hnb,hE,hK,hD,hB,c0,c1,c2,c3,c4⟩:=lG h0 hb0 tT;have hlen:=h0.len.2;obtain⟨ae,ne,rfl⟩:=hE.isSlice;obtain⟨ak,nk,rfl⟩:=hK.isSlice;obtain⟨ad,rV,rfl⟩:=hD.isSlice;obtain⟨ab,oN,rfl⟩:=hB.isSlice;obtain⟨QO,Oz,p0,p1,p2,p3,Tw,fE⟩:=hw;have hbz:=hb0.size;have l1:=hE.len bY;have l2:=hK.len bY;have l3:=hD.len bY;have l4:=hB.len bY;have hSl:=hS.le;rw [mP]at c0;have ags:=fE.lt;have pR:nb≠mb:=ai;have hnp:nb≠pb:=ai;have Aw:=fE.look (n:=(j:Int)) (by unfold i64;omega);rw [show decide ((j:Int)∈S)=false by simp [Km]]at Aw;have hkey:keyOf Tryz.prog 3 (.int .i64 (j:Int))=some (.int .i64 (j:Int)):=keyOf_int_mk Tryz.underlying3 (wf_i64 (by unfold i64;omega));have HE:=ag fun w' (hb:aq w0 w')=>Cg (lo:=lo) (hi:=hi) (hB.below hb aO);have jP:=ag (EZ (x:=x) (lo:=lo) (hi:=hi));have xE:=ag CJ;have mB:=ag hno;have Uh:=ag IH;have ZZ:=ag hd0;have sJ:=ag hS1;have HKEY:=ag fun w' (hb:aq w0 w') (i:Nat) (y:Int) (hy:x.keys[i]?=some y)=>gM.get (hK.below hb aO) hy;have zb:=ag fun w' (hb:aq w0 w') (i:Nat) (y:Int) (hy:x.kids[i]?=some y)=>gM.get (hD.below hb aO) hy;clear h0 hE hK hD hB hx hn0 Km CJ hno mP hd0 hS hS1 IH;obtain⟨lk,hlk⟩:=bG (x.keys.length);obtain⟨ld,O9⟩:=bG (x.kids.length);have P6:=ag hlk;have Qk:=ag O9;clear hlk O9;generalize x.aI.length=le at *;generalize x.buf.length=lb at *;generalize nA x.buf lo hi=be at *;rw [P6]at c2 l2 jP;rw [Qk]at c3 l3 jP;go_enter Tryz.func116,Tryz.ntmps116;go_upto_region 4 with (first|(at_mapUpdate;refine wpList_mapUpdate_own _ rfl _ _ _ 175 rfl 3 4 Tryz.Cz Tryz.underlying175 _ mb S.length (ur S) rfl fE (by unfold maxLen;omega) _ _ (.int .i64 (j:Int)) rfl rfl hkey (.lit (.bool true)) [] (plainElem_bool Tryz.underlying4 true) ?_;intro w1 hown1 hgrow1));have ht1:aA (Own2 pb mb) w w1:=(aA.refl _ _).grown hgrow1 (fun k hk=>by cases hk;exact .inl (.inr rfl));have CK:kX w1 mb ((j:Int)::S):=kX.put hown1 rfl;have gz:w.heap.size<=w1.heap.size:=hgrow1.size;have gc:∀b,b≠mb->b<w.heap.size->∀o,w1.cell? ⟨b,o,none⟩=w.cell? ⟨b,o,none⟩:=fun b h1 h2 o=>oH (hgrow1.block b h2 (fun e=>h1 (dh e.symm).symm));have gf:∀b,b≠mb->b<w.heap.size->∀o,w1.frozen? ⟨b,o,none⟩=w.frozen? ⟨b,o,none⟩:=fun b h1 h2 o=>World.frozen?_of_block (hgrow1.block b h2 (fun e=>h1 (dh e.symm).symm));have yt:nb<w:=ai
 replace p0:=(gc pb Oz QO 0).trans p0
 replace p1:=(gc pb Oz QO 1).trans p1
 replace p2:=(gc pb Oz QO 2).trans p2
 replace p3:=(gc pb Oz QO 3).trans p3
 replace Tw:=fun o=>(gf pb Oz QO o).trans (Tw o)
 replace c0:=(gc nb pR yt _).trans c0
 replace c1:=(gc nb pR yt _).trans c1
 replace c2:=(gc nb pR yt _).trans c2
 replace c3:=(gc nb pR yt _).trans c3
 replace c4:=(gc nb pR yt _).trans c4
 have XF:pb<w1:=ai;clear gc gf hgrow1 hown1 Aw fE hkey;have hb1:aq w0 w1:=ht1.below hb0 hbz (fun i hi=>by rcases hi with rfl|rfl <;> omega)
 go_upto_region 5 with (fail);obtain⟨W2,hW2⟩:=cd (w1.alloc (.cells #[.bool false,ah ae le ne,ah ak lk nk,ah ad ld rV,ah ab lb oN] 125));have Yg:aA (fun _=>False) w1 W2:=by rw [hW2];exact(aA.refl _ _).alloc _
 have k1:W2.heap[w1.heap.size]?=some (.cells #[.bool false,ah ae le ne,ah ak lk nk,ah ad ld rV,ah ab lb oN] 125):=by
  rw [hW2];exact au _ _ rfl
 have hw2:eG W2 pb mb (ah (some (nb,fV)) t.nodes c) t.root ((j:Int)::S) D:=
  (⟨XF,Oz,p0,p1,p2,p3,Tw,CK⟩:eG w1 pb mb _ t.root ((j:Int)::S) D).turn Yg (fun h=>h) (fun h=>h)
 have ht2:aA (Own2 pb mb) w W2:=ht1.trans (Yg.mono (fun _ _ h=>h.elim));have hb2:aq w0 W2:=ht2.below hb0 hbz (fun i hi=>by rcases hi with rfl|rfl <;> omega)
 have hz1:w1<W2.heap.size:=(eJ.1 k1).1;rw [<-hW2];clear hW2 Yg p0 p1 p2 p3 Tw c0 c1 c2 c3 c4 CK hb1 hb0 yu tT;obtain⟨x0,x1,x2,x3,x4⟩:W2.cell? (w1,0)=some (.bool false)/\W2.cell? (w1,1)=some (ah ae le ne)/\W2.cell? (w1,2)=some (ah ak lk nk)/\W2.cell? (w1,3)=some (ah ad ld rV)/\W2.cell? (w1,4)=some (ah ab lb oN):=by
  simp [World.cell?,k1]
 have HW:=ag hw2;have uW:=ag ht2;have GD:=ag (HE W2 hb2);have hwl:IntKind.i64.wrap ((ld:Int)-1)=(ld:Int)-1:=bI _ ai;clear hw2 HE;by_cases hok:mW x lo hi
 ·have HR:=ag (xE hok);obtain⟨e1,e2,e3,e4,e5,e6⟩:=jP.1 hok;subst e1 e6;have d3:((lk:Int) != (ld:Int)-1)=false:=by simp;omega
  have e4a:lk+1<=ld:=ai;have e4b:ld<=lk+1:=ai;clear hok e4;go_upto_region 11 with ((go_at_call 123;(with_reducible refine GD.out.mono ?_);rintro e' w4 ⟨rfl,BE⟩));have k4:w4.heap[w1.heap.size]?=_:=(BE.block _ hz1).trans k1;have hz4:w1<w4.heap.size:=(eJ.1 k4).1;have ht4:aA (fun _=>False) W2 w4:=aA.of BE aO;have hb4:aq w0 w4:=aF hb2 BE hb2.size;have HW4:=ag (HW.turn ht4 (fun h=>h) (fun h=>h));have HC:=ag fun wr (ht:aA (Own2 pb mb) w4 wr)=>(by
   have b1:wr.heap[w1.heap.size]?=_:=(ht.block _ hz4 (fun h=>by rcases h with h|h <;> omega)).trans k4
   simp [World.cell?,b1] :
   wr.cell? (w1,2)=some (ah ak lk nk)/\wr.cell? (w1,3)=some (ah ad ld rV))
  have HB:=ag fun wr (ht:aA (Own2 pb mb) w4 wr)=>(aA.below (B:=w0.heap.size) ht hb4 hb4.size (fun i hi=>by rcases hi with rfl|rfl <;> omega):aq w0 wr)
  have HT:=ag fun wr (ht:aA (Own2 pb mb) w4 wr)=>((uW.trans (ht4.mono (fun _ _ h=>h.elim))).trans ht:aA (Own2 pb mb) w wr);clear x0 x1 x2 x3 x4 k1 k4 hb2 hb4 ht1 ht2 ht4 BE GD mB xE jP HW uW hwl d3;obtain⟨u2,u3⟩:=HC w4 (aA.refl _ _);go_wp2_with fail;clear u2 u3
  go_loopg [159] ld (fun g i wr=>∃(k:Nat) (S':List Int) (D':Int),k<=ld/\g=ld-k/\i=af k/\Hid (Ks t S') /\
   Hid (eO t (f+1) (j:Int) lo hi (S,D)=qi (fun k a b s=>eO t f k a b s) x lo hi (x.kids.drop k) k (S',D'))/\aA (Own2 pb mb) w4 wr/\Hid (eG wr pb mb (ah (some (nb,fV)) t.nodes c) t.root S' D'))
  case atStart=>exact⟨0,(j:Int)::S,D,eY _,rfl,rfl,sJ,ag (by rw [HR];rfl),aA.refl _ _,HW4⟩
  case round=>
   obtain⟨k,S',D',hk,rfl,rfl,HS',Tb,ht,HW'⟩:=hrel;obtain⟨p2,p3⟩:=HC _ ht;by_cases hlt':k<ld
   ·obtain⟨K,hK⟩:∃K,x.kids[k]?=some K:=⟨x.kids[k]'(by rw [Qk];exact hlt'),bh⟩;obtain⟨kb,A6,XR,ke,hkb,hkc⟩:=zb _ (HB _ ht) k K hK;injection ke with XQ Wl XP;subst XQ XP;obtain⟨F,hF⟩:=bG (x.from lo k);obtain⟨T,hT⟩:=bG (x.upto hi k);have kI:=ag (Tb.out.trans (Lr (by rw [Qk];exact hlt')));have hKe:x.kids[k]'(by rw [Qk];exact hlt')=K:=(dW.1 hK).2;rw [hKe,hF,hT]at kI;have ahr:lk<=ld:=ai;have HUP:Hid ((k<lk->x.keys[k]?=some T)/\(¬k<lk->T=hi)):=ag ⟨fun h=>by
      have hlk:k<x.keys:=(by have:=P6.out;omega);rw [<-hT];simp [Nd.upto,hlk],fun h=>by
      have hlk:¬k<x.keys:=(by have:=P6.out;omega);rw [<-hT];simp [Nd.upto,hlk]⟩
    have HFR:Hid ((0<k->x.keys[k-1]?=some F)/\(k=0->F=lo)):=ag ⟨fun h=>by
      have hlk:k-1<x.keys:=(by have:=P6.out;omega);have iy:k≠0:=ai;rw [<-hF];simp [Nd.from,iy,hlk],fun h=>by
      rw [<-hF];simp [Nd.from,h]⟩
    clear hK hT hF hKe;go_upto_if 167 with (fail);go_cut [14] (fun v wx=>v=af F/\wr=wx)
    case first=>
     by_cases hk2:0<k
     ·obtain⟨b2,OE,cap2,e2,YP,hc2⟩:=HKEY _ (HB _ ht) (k-1) F (HFR.1 hk2);injection e2 with f1 f2 f3;subst f1 f3;have jA:=fun w=>jL (ab:=b2) (aR:=OE) (n:=lk) (cap:=nk) (show (k:Int)-1=((k-1:Nat):Int) by omega) ai w;have hw1:IntKind.i64.wrap ((k:Int)-1)=(k:Int)-1:=bI _ ai;rw [P6]at *;clear f2 Wl;go_wp2;go_meet;exact⟨rfl,rfl⟩
     ·obtain rfl:k=0:=ai;have HTE:=ag (HFR.2 rfl);clear Wl;go_wp2;go_meet;exact⟨by rw [HTE],rfl⟩
    case rest=>
     obtain⟨rfl,rfl⟩:=hcut;go_upto_if 178 with (fail);go_cut [15] (fun v wx=>v=af T/\wr=wx)
     case first=>
      by_cases hk2:k<lk
      ·obtain⟨b2,OE,cap2,e2,YP,hc2⟩:=HKEY _ (HB _ ht) k T (HUP.1 hk2);injection e2 with f1 f2 f3;subst f1 f3;clear f2 Wl;go_wp2;go_meet;exact⟨rfl,rfl⟩
      ·have HTE:=ag (HUP.2 hk2);clear Wl;go_wp2;go_meet;exact⟨by rw [HTE],rfl⟩
     case rest=>
      obtain⟨rfl,rfl⟩:=hcut;clear p2 p3 Wl;by_cases g1:F<T/\lo<=F/\T<=hi
      ·have HD1:=ag (show d+1=13-f by have:=ZZ.out;omega);have hwd:IntKind.i64.wrap (d+1)=d+1:=bI _ ai;have ie:=ag (Uh K F T (d+1) S' D' wr HD1 (HB _ ht) HW'.out HS'.out);obtain⟨a1,a2,a3⟩:=g1
       cases hR:eO t f K F T (S',D') with
       |none=>
        have Gy:=ag (show eO t (f+1) (j:Int) lo hi (S,D)=none by rw [kI,aw ⟨a1,a2,a3⟩];simp only [hR]);rw [hR]at ie;clear hR;go_wp2_with ((go_at_call 116;(with_reducible refine ie.out.mono ?_);rintro e w5 ⟨ud,rfl⟩));go_ret;rw [Gy];exact cS ((HT _ ht).trans ud) rfl
       |some p=>
        obtain⟨S2,D2⟩:=p;have TU:=ag (show eO t (f+1) (j:Int) lo hi (S,D)=qi (fun k a b s=>eO t f k a b s) x lo hi (x.kids.drop (k+1)) (k+1) (S2,D2) by rw [kI,aw ⟨a1,a2,a3⟩];simp only [hR]);have Ka:=ag (show Ks t S2 from Ib f K F T (S',D') (S2,D2) HS'.out hR);rw [hR]at ie;clear hR;go_wp2_with ((go_at_call 116;(with_reducible refine ie.out.mono ?_);rintro e w5 ⟨ud,rfl,tS⟩));go_roundg (ld-(k+1))
        case measure=>omega
        case rel=>exact⟨k+1,S2,D2,ai,rfl,by go_num,Ka,TU,ht.trans ud,ag tS⟩
      ·have Gy:=ag (show eO t (f+1) (j:Int) lo hi (S,D)=none by rw [kI,ar g1]);by_cases a1:F<T
       ·by_cases a2:lo<=F
        ·have a3:hi<T:=ai;clear g1;go_wp2;go_ret;rw [Gy];exact cS (HT _ ht) rfl
        ·have a2':F<lo:=ai;clear g1;go_wp2;go_ret;rw [Gy];exact cS (HT _ ht) rfl
       ·have a1':T<=F:=ai;clear g1;go_wp2;go_ret;rw [Gy];exact cS (HT _ ht) rfl
   ·have Gz:=ag (Tb.out.trans (OQ (by rw [Qk];omega)));go_wp2;go_ret;rw [Gz];exact xc (HT _ ht) rfl HW'.out
 ·have HR:=ag (mB hok);have yz:=jP.out;by_cases g1:le=0
  ·subst g1;by_cases g2:ld<=4
   ·by_cases g2':2<=ld
    ·by_cases g3:lk+1=ld
     ·have d3:((lk:Int) != (ld:Int)-1)=false:=(by simp;omega);by_cases g4:lb<=8
      ·have GR:be=false:=by
        cases be with
        |false=>rfl
        |true=>exact absurd (yz.2 ⟨rfl,g2',g2,g3,g4,rfl⟩) hok
       subst GR;clear hok yz g3 jP;go_wp2_with ((go_at_call 123;(with_reducible refine GD.out.mono ?_);rintro e' w4 ⟨rfl,BE⟩));go_ret;rw [HR];exact cS (uW.trans (aA.of BE aO)) rfl
      ·have g4':8<lb:=ai;clear hok yz g3 jP;go_wp2;go_ret;rw [HR];exact cS uW rfl
     ·have d3:((lk:Int) != (ld:Int)-1)=true:=(by simp;omega);clear hok yz g3 jP;go_wp2;go_ret;rw [HR];exact cS uW rfl
    ·have anb:ld<2:=ai;clear hok yz jP;go_wp2;go_ret;rw [HR];exact cS uW rfl
   ·have g2':4<ld:=ai;clear hok yz jP;go_wp2;go_ret;rw [HR];exact cS uW rfl
  ·have g1':0<le:=ai;clear hok yz jP;go_wp2;go_ret;rw [HR];exact cS uW rfl
theorem Q0 (h0:bn w0 nv t.nodes) (hpb:w0<=pb) (hmb:w0<=mb):∀(f:Nat),f<=12->∀(n lo hi d:Int) (S:List Int) (D:Int) (w:World),d=13-f->aq w0 w->eG w pb mb nv t.root S D->Ks t S ->
  Calls Tryz.prog 116 #[.pointer (some (pb,0)),af n,af lo,af hi,af d] w (qz pb mb nv t.root (eO t f n lo hi (S,D)) w):=by
 intro f
 induction f with
 |zero=>intro _ n lo hi d S D w hd hb hw hS;exact Cn h0 hw hd ai (.inl rfl)
 |succ f ih=>
  intro hf n lo hi d S D w hd hb hw hS
  cases hx:t.dm n with
  |none=>exact Cn h0 hw hd hf (.inr (.inl hx))
  |some x=>
   by_cases hn:n∈S
   ·exact Cn h0 hw hd hf (.inr (.inr hn))
   ·cases hl:x.leaf with
    |true=>exact OH h0 hb hpb hmb hw hS ai ai hx hn hl
    |false=>exact Le h0 hb hpb hmb hw hS ai ai (fun n lo hi d S D w=>ih ai n lo hi d S D w) hx hn hl
end
theorem kQ {v:Value} {t:Tr} {w:World} (h:di w v t) :
  Calls Tryz.prog 107 #[v] w fun e w'=>e = .returned (af (aC t))/\aq w w':=by
 obtain⟨nv,rfl,hn⟩:=h;rw [<-PK];obtain⟨⟨ao,cap,rfl⟩,hlen⟩:=hn.len;by_cases hbig:2000<t.nodes.length
 ·have HR:=ag (show xp t=1 from aw hbig);go_enter Tryz.func107,Tryz.ntmps107;go_wp2;go_ret;exact⟨ij HR.symm,eV⟩
 ·have hsm:t.nodes.length<=2000:=ai;have HR:=ag (show xp t=_ from ar hbig);have hmm:=@run_makeMap Tryz.prog;clear hbig;go_enter Tryz.func107,Tryz.ntmps107;go_upto_region 4 with (fail);obtain⟨W3,hW3⟩:=cd (((w.alloc (.cells #[ah ao t.nodes cap,af t.root] 27)).alloc (.map #[] 0)).alloc (.cells #[ah ao t.nodes cap,af t.root, .map (some (w.heap.size+1)),af 0] 177));have hb3:aq w W3:=by rw [hW3];exact eV
  have hz3:W3=w.heap.size+1+1+1:=by rw [hW3];simp
  have k0:W3.heap[w.heap.size]?=some (.cells #[ah ao t.nodes cap,af t.root] 27):=by
   rw [hW3,gy _ _ _ fk,gy _ _ _ bh];exact au _ _ rfl
  have k2:W3.heap[w.heap.size+1+1]?=some (.cells #[ah ao t.nodes cap,af t.root, .map (some (w.heap.size+1)),af 0] 177):=by
   rw [hW3];exact au _ _ bh
  have fE:kX W3 (w+1) []:=by
   have h1:=World.ownsMap_made (H:=Unit) (w.alloc (.cells #[ah ao t.nodes cap,af t.root] 27)) Tryz.prog 3 (plainElem Tryz.prog 4);rw [show (w.alloc (.cells #[ah ao t.nodes cap,af t.root] 27)).heap.size=w+1 by simp]at h1;have h2:kX _ (w+1) []:=h1;rw [hW3];exact h2.turn (X:=fun _=>False) ((aA.refl _ _).alloc _) (fun h=>h)
  have hw3:eG W3 (w+1+1) (w+1) (ah ao t.nodes cap) t.root [] 0:=
   ⟨ai,ai,by simp [World.cell?,k2],by simp [World.cell?,k2],by simp [World.cell?,k2],by simp [World.cell?,k2],fun o=>by simp [World.frozen?,k2],fE⟩
  have q1:W3.cell? (w,1)=some (af t.root):=by simp [World.cell?,k0]
  have ie:=ag (Q0 hn (pb:=w.heap.size+1+1) (mb:=w.heap.size+1) ai ai 12 aO t.root 0 1099511627776 1 [] 0 W3.drew bY hb3.drew (hw3.turn (X:=fun _=>False) (aA.refl _ _).drew (fun h=>h) (fun h=>h)) ⟨List.nodup_nil,fun y h=>by cases h⟩);have HB:=ag fun w5 (ht:aA (Own2 (w+1+1) (w+1)) W3.drew w5)=>(ht.below hb3.drew hb3.size (fun i hi=>by rcases hi with rfl|rfl <;> omega):aq w w5)
  have HC0:=ag fun w5 (ht:aA (Own2 (w+1+1) (w+1)) W3.drew w5)=>(by
   have b0:w5.heap[w.heap.size]?=_:=(ht.block _ (by show w<W3.heap.size;omega) (fun h=>by rcases h with h|h <;> omega)).trans k0
   simp [World.cell?,b0]:w5.cell? (w,0)=some (ah ao t.nodes cap)/\(w5,w.heap.size,1,t.root))
  have hs0:W3.drew.cell? (w,0)=some (ah ao t.nodes cap)/\W3.drew.cell? (w,1)=some (af t.root)/\W3.drew.cell? (w.heap.size+1+1,2)=some (.map (some (w.heap.size+1))):=by
   obtain⟨a,b⟩:=HC0 _ (aA.refl _ _);exact⟨a,b,hw3.c2⟩
  rw [<-hW3];clear hW3 k0 k2 fE hw3 hmm hn;have qK:=ag fun S D=>Ib (t:=t) 12 t.root 0 1099511627776 ([],0) (S,D) ⟨List.nodup_nil,fun y h=>by cases h⟩
  cases hr:eO t 12 t.root 0 1099511627776 ([],0) with
  |none=>
   rw [hr]at ie;have TX:=ag (show xp t=7 by rw [HR,hr]);clear hr;refine iw 3 _ rfl cV cV ?_
   (simp only [List.take_succ_cons,List.take_zero,List.drop_succ_cons,List.drop_zero];(repeat ((with_reducible refine qx (fun K hK=>?_));go_simp;(with_reducible refine hK _ ?_);clear hK K));(with_reducible refine qw ?_))
   intro K hK;go_simp
   (with_reducible refine ie.out.mono ?_);rintro e w5 ⟨ud,rfl⟩
   go_simp;refine hK _ _ ?_;clear hK K
   ((repeat ((with_reducible refine qx (fun K hK=>?_));go_simp;(with_reducible refine hK _ ?_);clear hK K));(with_reducible refine qw ?_))
   all_goals
    go_wp2;go_ret;exact⟨ij TX.symm,HB _ ud⟩
  |some p=>
   obtain⟨S,D⟩:=p;have hok:=qK S D hr;rw [hr]at ie;by_cases hl:S=t.nodes.length
   ·have TX:=ag (show xp t=0 by rw [HR,hr];exact aw hl);have hl':((S.length:Int) != (t.nodes.length:Int))=false:=(by simp [hl]);have HN:=ag hok.1;clear hr hok hl;refine iw 3 _ rfl cV cV ?_
    (simp only [List.take_succ_cons,List.take_zero,List.drop_succ_cons,List.drop_zero];(repeat ((with_reducible refine qx (fun K hK=>?_));go_simp;(with_reducible refine hK _ ?_);clear hK K));(with_reducible refine qw ?_))
    intro K hK;go_simp
    (with_reducible refine ie.out.mono ?_);rintro e w5 ⟨ud,rfl,tS⟩
    have c2:=tS.c2;obtain⟨c0,-⟩:=HC0 _ ud;have hl5:=tS.set.len HN;go_simp;refine hK _ _ ?_;clear hK K
    ((repeat ((with_reducible refine qx (fun K hK=>?_));go_simp;(with_reducible refine hK _ ?_);clear hK K));(with_reducible refine qw ?_))
    all_goals
     go_wp2;go_ret;exact⟨ij TX.symm,HB _ ud⟩
   ·have TX:=ag (show xp t=7 by rw [HR,hr];exact ar hl);have hl':((S.length:Int) != (t.nodes.length:Int))=true:=(by simp;omega);have HN:=ag hok.1;clear hr hok hl;refine iw 3 _ rfl cV cV ?_
    (simp only [List.take_succ_cons,List.take_zero,List.drop_succ_cons,List.drop_zero];(repeat ((with_reducible refine qx (fun K hK=>?_));go_simp;(with_reducible refine hK _ ?_);clear hK K));(with_reducible refine qw ?_))
    intro K hK;go_simp
    (with_reducible refine ie.out.mono ?_);rintro e w5 ⟨ud,rfl,tS⟩
    have c2:=tS.c2;obtain⟨c0,-⟩:=HC0 _ ud;have hl5:=tS.set.len HN;go_simp;refine hK _ _ ?_;clear hK K
    ((repeat ((with_reducible refine qx (fun K hK=>?_));go_simp;(with_reducible refine hK _ ?_);clear hK K));(with_reducible refine qw ?_))
    all_goals
     go_wp2;go_ret;exact⟨ij TX.symm,HB _ ud⟩
end Go.Proofs.YtmljjfhgciaceaaGreatDoor
