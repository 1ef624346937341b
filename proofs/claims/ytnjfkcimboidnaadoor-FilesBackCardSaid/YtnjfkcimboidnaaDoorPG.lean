/- Texts of mine that come as one: CopyB PutP Put PutForm. -/
import Derived.Test.YtnjfkcimboidnaaDoorDG
import Derived.Test.YtnjfkcimboidnaaDoorSO
import Derived.Test.YtnjfkcimboidnaaDoorFG
import Derived.Test.YtnjfkcimboidnaaDoorPU
import Derived.Test.YtnjfkcimboidnaaDoorNC
import Derived.Test.YtnjfkcimboidnaaDoorGT
import Derived.Test.YtnjfkcimboidnaaDoorKG
import Derived.Test.YtnjfkcimboidnaaDoorSR
import Derived.Test.YtnjfkcimboidnaaDoorSP
/- The walk of tree.Copy: all its rows lie in blocks of their own. -/
namespace Go.Proofs.YtnjfkcimboidnaaDoor
open Go.RowKit
structure NodesOwn (M:Nat) (w:World) (nv:Value) (rs:List Raw) (xs:List Nd):Prop where
 row:w.ownsRow M 133 5 nv rs.length (rs.flatMap enRaw)
 len:rs.length=xs.length
 nds:∀(i:Nat) r x,rs[i]?=some r→xs[i]?=some x→NdOwn M w r x
 apart:∀(i j:Nat) r s f g b,rs[i]?=some r→rs[j]?=some s→(r.fld f).ownBlock=some b→(s.fld g).ownBlock=some b→i=j∧f=g
 off:∀(i:Nat) r f b,rs[i]?=some r→(r.fld f).ownBlock=some b→nv.ownBlock≠some b
structure OwnAt (w:World) (rs:List Raw) (xs:List Nd) (gv:Value) (r0:Int) (k:Nat) (wr:World):Prop where
 own:∃rs':List Raw,wr.ownsRow (w.heap.size+2) 133 5 gv rs.length (rs'.flatMap enRaw)∧rs'.length=rs.length∧(∀(i:Nat) r x,i<k→rs'[i]?=some r→xs[i]?=some x→NdOwn (w.heap.size+2) wr r x) ∧
  (∀(i j:Nat) r s f h b,i<k→j<k→rs'[i]?=some r→rs'[j]?=some s→(r.fld f).ownBlock=some b→(s.fld h).ownBlock=some b→i=j∧f=h)∧(∀(i:Nat) r f b,i<k→rs'[i]?=some r→(r.fld f).ownBlock=some b→gv.ownBlock≠some b)∧∀i:Nat,k≤i→rs'[i]?=rs[i]?
 below:Below w.heap.size w wr
 size:w.heap.size+2≤wr.heap.size
 c0:wr.cell? ⟨w.heap.size,0,none⟩=some gv
 c1:wr.cell? ⟨w.heap.size,1,none⟩=some (.int .i64 r0)
 cf:∀o,wr.frozen? ⟨w.heap.size,o,none⟩=false
 d0:∃u,wr.cell? ⟨w.heap.size+1,0,none⟩=some u
 d1:∃u,wr.cell? ⟨w.heap.size+1,1,none⟩=some u
 df:∀o,wr.frozen? ⟨w.heap.size+1,o,none⟩=false
theorem own_step {w wr wl:World} {rs rs':List Raw} {xs:List Nd} {g gc k:Nat} {r0:Int} {xk:Nd} (rn:Raw)
  (ho:wr.ownsRow (w.heap.size+2) 133 5 (.slice (some ⟨g,0,none⟩) rs.length gc) rs.length (rs'.flatMap enRaw)) (hl':rs'.length=rs.length)
  (hdone:∀(i:Nat) r x,i<k→rs'[i]?=some r→xs[i]?=some x→NdOwn (w.heap.size+2) wr r x)
  (hapart:∀(i j:Nat) r s f h b,i<k→j<k→rs'[i]?=some r→rs'[j]?=some s→(r.fld f).ownBlock=some b→(s.fld h).ownBlock=some b→i=j∧f=h)
  (hoff:∀(i:Nat) r f b,i<k→rs'[i]?=some r→(r.fld f).ownBlock=some b→(Value.slice (some ⟨g,0,none⟩) rs.length gc).ownBlock≠some b)
  (hrest:∀i:Nat,k≤i→rs'[i]?=rs[i]?) (hlx:rs.length=xs.length) (hg1:w.heap.size+2≤g) (hg2:g<wr.heap.size) (hlt:k<rs.length) (hxk:xs[k]?=some xk)
  (hbw:Below w.heap.size w wr) (_hsz:w.heap.size+2≤wr.heap.size) (B:Below wr.heap.size wr wl)
  (c0:wr.cell? ⟨w.heap.size,0,none⟩=some (.slice (some ⟨g,0,none⟩) rs.length gc)) (c1:wr.cell? ⟨w.heap.size,1,none⟩=some (.int .i64 r0)) (cf:∀o,wr.frozen? ⟨w.heap.size,o,none⟩=false)
  {u0 u1:Value} (d0:wr.cell? ⟨w.heap.size+1,0,none⟩=some u0) (d1:wr.cell? ⟨w.heap.size+1,1,none⟩=some u1) (df:∀o,wr.frozen? ⟨w.heap.size+1,o,none⟩=false)
  (HN:Fresh (w.heap.size+2) wr.heap.size wl rn xk) :
  OwnAt w rs xs (.slice (some ⟨g,0,none⟩) rs.length gc) r0 (k+1) (((((wl.setCell ⟨g,k*5,none⟩ (.bool rn.leaf)).setCell ⟨g,k*5+1,none⟩ rn.ev).setCell ⟨g,k*5+2,none⟩ rn.kv).setCell ⟨g,k*5+3,none⟩ rn.dv).setCell ⟨g,k*5+4,none⟩ rn.bv):=by
 obtain⟨wx,hwx⟩:∃wx,wx=(((((wl.setCell ⟨g,k*5,none⟩ (.bool rn.leaf)).setCell ⟨g,k*5+1,none⟩ rn.ev).setCell ⟨g,k*5+2,none⟩ rn.kv).setCell ⟨g,k*5+3,none⟩ rn.dv).setCell ⟨g,k*5+4,none⟩ rn.bv):=⟨_,rfl⟩
 have hown:wx.ownsRow (w.heap.size+2) 133 5 (.slice (some ⟨g,0,none⟩) rs.length gc) rs.length ((rs'.set k rn).flatMap enRaw):=by
  rw [hwx];exact ownsRow_set5 (owns_below ho B) hlt hl'.symm
 have hblk:∀b,b≠g→wx.heap[b]?=wl.heap[b]?:=fun b hb=>by rw [hwx];exact block_set5 hb
 have hbx:Below w.heap.size w wx:=by
  rw [hwx]
  have h0:Below w.heap.size w wl:=Below.trans' hbw B hbw.size
  exact((((h0.setCell (by simp <;> omega) _).setCell (by simp <;> omega) _).setCell (by simp <;> omega) _).setCell (by simp <;> omega) _).setCell (by simp <;> omega) _
 have hold:∀b,b<wr.heap.size→b≠g→wx.heap[b]?=wr.heap[b]?:=fun b hb hg=>(hblk b hg).trans (B.block b hb)
 have hcell:∀b o,b<w.heap.size+2→wx.cell? ⟨b,o,none⟩=wr.cell? ⟨b,o,none⟩:=fun b o hb=>World.cell?_of_block (hold b (by omega) (by omega))
 have hfro:∀b o,b<w.heap.size+2→wx.frozen? ⟨b,o,none⟩=wr.frozen? ⟨b,o,none⟩:=fun b o hb=>World.frozen?_of_block (hold b (by omega) (by omega))
 have hsx:wl.heap.size=wx.heap.size:=by rw [hwx];simp
 have hset:∀(i:Nat) s,i<k+1→(rs'.set k rn)[i]?=some s→(i=k∧s=rn)∨(i<k∧rs'[i]?=some s):=fun i s hi hs=>by
  by_cases hik:i=k
  ·subst hik
   rw [List.getElem?_set_self (by omega)]at hs
   exact .inl ⟨rfl,(Option.some.inj hs).symm⟩
  ·rw [List.getElem?_set_ne (Ne.symm hik)]at hs;exact .inr ⟨by omega,hs⟩
 have hlt2:∀(i:Nat) s f b,i<k→rs'[i]?=some s→(s.fld f).ownBlock=some b→b<wr.heap.size∧b≠g:=fun i s f b hi hs hb=>by
  have hix:i<xs.length:=by omega
  refine⟨(((hdone i s _ hi hs (List.getElem?_eq_getElem hix)).row f).lt b hb).2,fun e=>hoff i s f b hi hs hb (by rw [e];rfl)⟩
 rw [←hwx]
 refine⟨⟨rs'.set k rn,hown,by simp [hl'],fun i r x hi hr hx=>?_,fun i j r s f h b hi hj hr hs hb hb'=>?_,fun i r f b hi hr hb=>?_,fun i hi=>?_⟩,hbx,?_,?_,?_,fun o=>?_,⟨u0,?_⟩,⟨u1,?_⟩,fun o=>?_⟩
 ·rcases hset i r hi hr with ⟨rfl,rfl⟩|⟨hik,hr⟩
  ·rw [hxk]at hx
   injection hx with hx;subst hx
   exact HN.own.block fun f b hb=>hblk b (by have:=HN.new f b hb;omega)
  ·exact(hdone i r x hik hr hx).block fun f b hb=>by
    obtain⟨q1,q2⟩:=hlt2 i r f b hik hr hb
    exact hold b q1 q2
 ·rcases hset i r hi hr with ⟨e1,e2⟩|⟨hik,hr2⟩
  ·rcases hset j s hj hs with ⟨e3,e4⟩|⟨hjk,hs2⟩
   ·subst e2 e4
    exact⟨e1.trans e3.symm,HN.apart f h b hb hb'⟩
   ·subst e2
    have:=(hlt2 j s h b hjk hs2 hb').1;have:=(HN.new f b hb).1;omega
  ·rcases hset j s hj hs with ⟨e3,e4⟩|⟨hjk,hs2⟩
   ·subst e4
    have:=(hlt2 i r f b hik hr2 hb).1;have:=(HN.new h b hb').1;omega
   ·exact hapart i j r s f h b hik hjk hr2 hs2 hb hb'
 ·rcases hset i r hi hr with ⟨e1,e2⟩|⟨hik,hr2⟩
  ·subst e2
   intro e
   have e:g=b:=Option.some.inj e
   have:=(HN.new f b hb).1;omega
  ·exact hoff i r f b hik hr2 hb
 ·rw [List.getElem?_set_ne (by omega)];exact hrest i (by omega)
 ·have:=B.size;omega
 ·rw [hcell _ _ (by omega)];exact c0
 ·rw [hcell _ _ (by omega)];exact c1
 ·rw [hfro _ _ (by omega)];exact cf o
 ·rw [hcell _ _ (by omega)];exact d0
 ·rw [hcell _ _ (by omega)];exact d1
 ·rw [hfro _ _ (by omega)];exact df o
theorem own_end {w wr:World} {rs:List Raw} {xs:List Nd} {gv:Value} {r0:Int} {k:Nat} (h:OwnAt w rs xs gv r0 k wr) (hk:rs.length≤k) (hl:rs.length=xs.length) (v0 v1:Value) :
  ∃rs',Below w.heap.size w ((wr.setCell ⟨w.heap.size+1,0,none⟩ v0).setCell ⟨w.heap.size+1,1,none⟩ v1)∧NodesOwn (w.heap.size+2) ((wr.setCell ⟨w.heap.size+1,0,none⟩ v0).setCell ⟨w.heap.size+1,1,none⟩ v1) gv rs' xs:=by
 obtain⟨⟨rs',ho,hl',hdone,hapart,hoff,hrest⟩,hbw,hsz,-,-,-,-,-,-⟩:=h
 have hb:∀b,w.heap.size+2≤b→((wr.setCell ⟨w.heap.size+1,0,none⟩ v0).setCell ⟨w.heap.size+1,1,none⟩ v1).heap[b]?=wr.heap[b]?:=fun b hb=>
  (heap_setCell_other _ ⟨w.heap.size+1,_,none⟩ b v1 (by show b≠w.heap.size+1;omega)).trans (heap_setCell_other _ ⟨w.heap.size+1,_,none⟩ b v0 (by show b≠w.heap.size+1;omega))
 refine⟨rs',(hbw.setCell (by simp <;> omega) _).setCell (by simp <;> omega) _,?_,by omega,fun i r x hr hx=>?_,fun i j r s f h b hr hs=>hapart i j r s f h b (by have:=(List.getElem?_eq_some_iff.1 hr).1;omega) (by have:=(List.getElem?_eq_some_iff.1 hs).1;omega) hr hs,
  fun i r f b hr=>hoff i r f b (by have:=(List.getElem?_eq_some_iff.1 hr).1;omega) hr⟩
 ·rw [hl'];exact owns_block ho fun g hg=>hb g (ho.lt g hg).1
 ·have hd:=hdone i r x (by have:=(List.getElem?_eq_some_iff.1 hr).1;omega) hr hx
  exact hd.block fun f g hg=>hb g ((hd.row f).lt g hg).1
set_option maxRecDepth 100000 in
set_option maxHeartbeats 4000000 in
theorem treeCopy_own {nv root:Value} {xs:List Nd} {w:World} (h:NodesAt w nv xs) (hroot:∃r,root = .int .i64 r) :
  Calls Tryd.prog 74 #[.agg #[nv,root]] w fun e w'=>∃nv' rs',e = .returned (.agg #[nv',root])∧Below w.heap.size w w'∧NodesOwn (w.heap.size+2) w' nv' rs' xs:=by
 obtain⟨r0,rfl⟩:=hroot
 obtain⟨rs,hs,hr⟩:=id h
 have hmax:rs.length≤9223372036854775806:=by obtain⟨_,_,_,_,_,h,_⟩:=hs;omega
 obtain⟨ao,cap,rfl⟩:=hs.isSlice
 obtain⟨W0,hW0⟩:∃W0,W0=(w.alloc (.cells #[.slice ao rs.length cap, .int .i64 r0] 32)).alloc (.cells #[.slice none 0 0, .int .i64 0] 32):=⟨_,rfl⟩
 have hb0:Below w.heap.size w W0:=by rw [hW0];exact((Below.refl _ w).alloc (Nat.le_refl _) _).alloc (by simp) _
 have HC:=Lib.hid (cloneRaw_any (hs.below hb0 (Nat.le_refl _)) hr.one)
 rw [hW0]at HC
 clear h
 go_enter Tryd.func74,Tryd.ntmps74
 go_wp2_with (go_at_call 87;refine HC.out.mono ?_;rintro e w1 ⟨gv,rfl,hown,hb1⟩;obtain⟨go,gc,rfl⟩:=owns_slice hown;obtain⟨p1,p2,p3⟩:=keep1 hb1 (B:=w.heap.size) (by simp <;> omega);obtain⟨q1,q2,q3⟩:=keep1 hb1 (B:=w.heap.size+1) (by simp))
 have hB2:w.heap.size+2≤w1.heap.size:=by have:=hb1.size;simp at this;omega
 go_loopg [12] rs.length (fun g c wr=>∃k,k≤rs.length∧g=rs.length-k∧c = .int .i64 k∧OwnAt w rs xs (.slice go rs.length gc) r0 k wr)
 case atStart=>
  refine⟨0,Nat.zero_le _,rfl,rfl,?_⟩
  refine⟨⟨rs,owns_setOther (by simpa using hown) (by omega) _,rfl,by simp,by simp,by simp,fun i _=>rfl⟩,?_,by simpa [heap_setCell_size] using hB2,?_,?_,?_,?_,?_,?_⟩
  ·refine Below.setCell ?_ (by simp <;> omega) _
   exact Below.trans' (hW0▸hb0) hb1 (by simp <;> omega)
  all_goals first|(go_simp;done)|(simp [p2,p3,q2,q3];done)|(intro o;go_simp;done)|(intro o;simp [p2,p3,q2,q3];done)
 case round=>
  obtain⟨k,hk,rfl,rfl,HI⟩:=hrel
  clear p1 p2 p3 q1 q2 q3 hown hb1 hb0 hW0 HC
  by_cases hlt:k<rs.length
  ·obtain⟨⟨rs',ho,hl',hdone,hapart,hoff,hrest⟩,hbw,hsz,c0,c1,cf,⟨u0,d0⟩,⟨u1,d1⟩,df⟩:=HI
   obtain⟨g,cap2,hf,hg1,hg2⟩:=ho.form (by omega)
   injection hf with hf _ hcap
   subst hf;subst hcap
   obtain⟨rk,hrk⟩:∃rk,rs'[k]'(by omega)=rk:=⟨_,rfl⟩
   obtain⟨e0,e1,e2,e3,e4,ef⟩:=raw_cells ho hl' (by omega:k<rs'.length)
   rw [hrk]at e0 e1 e2 e3 e4
   have hkx:k<xs.length:=by rw [←hr.1];exact hlt
   obtain⟨xk,hxk⟩:∃xk,xs[k]=xk:=⟨_,rfl⟩
   have hxk':xs[k]?=some xk:=by rw [←hxk];simp [hkx]
   have hrk':rs'[k]?=some rk:=by rw [←hrk];simp
   have hN:NodeAt w rk xk:=hr.2 k rk xk ((hrest k (Nat.le_refl _))▸hrk') hxk'
   clear hrk
   obtain⟨lf,ev,kv,dv,bv⟩:=rk
   obtain⟨hlf,hE,hK,hD,hB⟩:=hN
   obtain⟨a1,n1,rfl⟩:=hE.isSlice
   obtain⟨a2,n2,rfl⟩:=hK.isSlice
   obtain⟨a3,n3,rfl⟩:=hD.isSlice
   obtain⟨a4,n4,rfl⟩:=hB.isSlice
   simp only at e0 e1 e2 e3 e4 hlf hE hK hD hB
   subst hlf
   obtain⟨W5,hW5⟩:∃W5,W5=wr.alloc (.cells #[Value.bool xk.leaf,Value.slice a1 xk.ents.length n1,Value.slice a2 xk.keys.length n2,Value.slice a3 xk.kids.length n3,Value.slice a4 xk.buf.length n4] 133):=⟨_,rfl⟩
   have hw5:Below wr.heap.size wr W5:=by rw [hW5];exact(Below.refl _ _).alloc (Nat.le_refl _) _
   have z5:W5.heap.size=wr.heap.size+1:=by rw [hW5];simp
   have n0:W5.heap[wr.heap.size]?=some (.cells #[Value.bool xk.leaf,Value.slice a1 xk.ents.length n1,Value.slice a2 xk.keys.length n2,Value.slice a3 xk.kids.length n3,Value.slice a4 xk.buf.length n4] 133):=by rw [hW5];exact heap_new _ _ rfl
   have HS:=Lib.hid fun(W:World) (hb:Below W5.heap.size W5 W)=>(by
    have hh:=(hb.block _ (by omega)).trans n0
    refine⟨?_,by simp [World.cell?,hh],by simp [World.cell?,hh],by simp [World.cell?,hh],by simp [World.cell?,hh],by simp [World.cell?,hh]⟩
    rw [(Below.trans' hw5 hb hw5.size).cell (p:=⟨w.heap.size,0,none⟩) (by show w.heap.size<wr.heap.size;omega)];exact c0:W.cell? ⟨w.heap.size,0,none⟩=some (.slice (some ⟨g,0,none⟩) rs.length gc)∧W.cell? ⟨wr.heap.size,0,none⟩=some (.bool xk.leaf)∧W.cell? ⟨wr.heap.size,1,none⟩=some (.slice a1 xk.ents.length n1)∧W.cell? ⟨wr.heap.size,2,none⟩=some (.slice a2 xk.keys.length n2)∧W.cell? ⟨wr.heap.size,3,none⟩=some (.slice a3 xk.kids.length n3)∧W.cell? ⟨wr.heap.size,4,none⟩=some (.slice a4 xk.buf.length n4))
   have HG:=Lib.hid fun(W:World) (hb:Below W5.heap.size W5 W)=>(by
    have bb:=Below.trans' hw5 hb hw5.size
    exact⟨(bb.cell (p:=⟨g,_,none⟩) hg2).trans e0,(bb.cell (p:=⟨g,_,none⟩) hg2).trans e1,(bb.cell (p:=⟨g,_,none⟩) hg2).trans e2,(bb.cell (p:=⟨g,_,none⟩) hg2).trans e3,(bb.cell (p:=⟨g,_,none⟩) hg2).trans e4,fun o=>(bb.frozen (p:=⟨g,_,none⟩) hg2).trans (ef o)⟩:W.cell? ⟨g,k*5,none⟩=some (.bool xk.leaf)∧W.cell? ⟨g,k*5+1,none⟩=some (.slice a1 xk.ents.length n1)∧W.cell? ⟨g,k*5+2,none⟩=some (.slice a2 xk.keys.length n2)∧W.cell? ⟨g,k*5+3,none⟩=some (.slice a3 xk.kids.length n3)∧W.cell? ⟨g,k*5+4,none⟩=some (.slice a4 xk.buf.length n4)∧∀o,W.frozen? ⟨g,o,none⟩=false)
   have hbA:∀W,Below W5.heap.size W5 W→Below w.heap.size w W:=fun W hb=>Below.trans' hbw (Below.trans' hw5 hb hw5.size) hbw.size
   have HCE:=Lib.hid fun(W:World) (hb:Below W5.heap.size W5 W)=>cloneEnt_any (hE.below (hbA W hb) (Nat.le_refl _))
   have HCK:=Lib.hid fun(W:World) (hb:Below W5.heap.size W5 W)=>cloneInt_any (hK.below (hbA W hb) (Nat.le_refl _))
   have HCD:=Lib.hid fun(W:World) (hb:Below W5.heap.size W5 W)=>cloneInt_any (hD.below (hbA W hb) (Nat.le_refl _))
   have HCB:=Lib.hid fun(W:World) (hb:Below W5.heap.size W5 W)=>cloneEnt_any (hB.below (hbA W hb) (Nat.le_refl _))
   have HST:=Lib.hid fun(wl:World) (B:Below wr.heap.size wr wl) (rn:Raw) (HN:Fresh (w.heap.size+2) wr.heap.size wl rn xk)=>own_step rn ho hl' hdone hapart hoff hrest hr.1 hg1 hg2 hlt hxk' hbw hsz B c0 c1 cf d0 d1 df HN
   have HW5:=Lib.hid (And.intro hw5 hsz)
   have hix:=fun w'=>idx_node (ab:=g) (aoff:=0) (n:=rs.length) (cap:=gc) (show (k:Int)=((k:Nat):Int) by rfl) hlt w'
   simp only [Nat.zero_add]at hix
   go_upto_region 5 with (fail)
   rw [←hW5]
   clear hr hs hbw hsz ho hl' hdone hapart hoff hrest e0 e1 e2 e3 e4 ef c0 c1 cf d0 d1 df hE hK hD hB hw5 n0 hbA hW5
   have T0:Below W5.heap.size W5 W5.drew:=(Below.refl _ _).drew
   refine wp_region_sched [(0,1),(1,0),(2,1),(3,1),(4,0),(5,1),(6,0),(8,1),(9,0),(11,1),(12,0),(14,1),(15,0),(7,2),(10,2),(13,2),(16,2),(17,1),(18,1),(19,3)] 19
    (fun W=>W.cell? ⟨w.heap.size,0,none⟩=some (.slice (some ⟨g,0,none⟩) rs.length gc)∧W.cell? ⟨wr.heap.size,0,none⟩=some (.bool xk.leaf)∧W.cell? ⟨wr.heap.size,1,none⟩=some (.slice a1 xk.ents.length n1)∧W.cell? ⟨wr.heap.size,2,none⟩=some (.slice a2 xk.keys.length n2)∧W.cell? ⟨wr.heap.size,3,none⟩=some (.slice a3 xk.kids.length n3)∧W.cell? ⟨wr.heap.size,4,none⟩=some (.slice a4 xk.buf.length n4)) (by kernel_rfl) (by kernel_rfl) (HS.out _ T0) ?_
   (simp only [pickS,List.filterMap_cons,List.filterMap_nil,List.getElem?_cons_zero,List.getElem?_cons_succ,Option.map_some])
   (repeat (first|((refine sched_pure (v:=?_) rfl (fun W=>?_) ?_);rotate_left;focus (go_simp;(try with_reducible rfl);done))|((refine sched_read (v:=?_) rfl (fun W hW=>?_) ?_);rotate_left;focus ((try dsimp only at hW);go_simp;(try with_reducible rfl);done))))
   refine sched_does rfl (fun K hK=>?_)
   go_simp
   (with_reducible refine(HCE.out _ T0).mono ?_);rintro e wE ⟨vE,rfl,oE,bE⟩
   obtain⟨aE,cE,rfl⟩:=owns_slice oE
   have TE:=Below.trans' T0 bE (Nat.le_refl _)
   go_simp
   refine hK _ _ (HS.out _ TE) ?_
   clear hK K
   refine sched_does rfl (fun K hK=>?_)
   go_simp
   (with_reducible refine(HCK.out _ TE).mono ?_);rintro e wK ⟨vK,rfl,oK,bK⟩
   obtain⟨aK,cK,rfl⟩:=owns_slice oK
   have TK:=Below.trans' TE bK TE.size
   go_simp
   refine hK _ _ (HS.out _ TK) ?_
   clear hK K
   refine sched_does rfl (fun K hK=>?_)
   go_simp
   (with_reducible refine(HCD.out _ TK).mono ?_);rintro e wD ⟨vD,rfl,oD,bD⟩
   obtain⟨aD,cD,rfl⟩:=owns_slice oD
   have TD:=Below.trans' TK bD TK.size
   go_simp
   refine hK _ _ (HS.out _ TD) ?_
   clear hK K
   refine sched_does rfl (fun K hK=>?_)
   go_simp
   (with_reducible refine(HCB.out _ TD).mono ?_);rintro e wB ⟨vB,rfl,oB,bB⟩
   obtain⟨aB,cB,rfl⟩:=owns_slice oB
   have TB:=Below.trans' TD bB TD.size
   go_simp
   refine hK _ _ (HS.out _ TB) ?_
   clear hK K
   obtain⟨x0,x1,x2,x3,x4,xf⟩:=HG.out _ TB
   have HN:=Lib.hid (show OwnAt w rs xs (.slice (some ⟨g,0,none⟩) rs.length gc) r0 (k+1) _ from HST.out wB (Below.trans' HW5.out.1 TB HW5.out.1.size) ⟨xk.leaf, .slice aE xk.ents.length cE, .slice aK xk.keys.length cK, .slice aD xk.kids.length cD, .slice aB xk.buf.length cB⟩ (by
    have s5:=HW5.out.1.size
    have s0:=T0.size
    have hsz:=HW5.out.2
    have sE:=TE.size
    have sK:=bK.size
    have sD:=bD.size
    have sB:=bB.size
    have sE':=bE.size
    have lE:=oE.lt
    have lK:=oK.lt
    have lD:=oD.lt
    have lB:=oB.lt
    refine⟨NdOwn.of rfl (owns_mono (owns_below (owns_below (owns_below oE bK) bD) bB) (by omega)) (owns_mono (owns_below (owns_below oK bD) bB) (by omega)) (owns_mono (owns_below oD bB) (by omega)) (owns_mono oB (by omega)),fun f b hb=>?_,fun f h b hb hb'=>?_⟩
    ·rcases Nat.lt_or_ge f 4 with h4|h4
     ·rcases lt4 h4 with rfl|rfl|rfl|rfl
      ·have:=lE b hb;omega
      ·have:=lK b hb;omega
      ·have:=lD b hb;omega
      ·have:=lB b hb;omega
     ·rw [Raw.fld_big _ h4]at hb;cases hb
    ·rcases Nat.lt_or_ge f 4 with h4|h4
     ·rcases Nat.lt_or_ge h 4 with g4|g4
      ·rcases lt4 h4 with rfl|rfl|rfl|rfl <;> rcases lt4 g4 with rfl|rfl|rfl|rfl <;> first
        |rfl
        |(have:=lE b hb;have:=lK b hb';omega)
        |(have:=lE b hb;have:=lD b hb';omega)
        |(have:=lE b hb;have:=lB b hb';omega)
        |(have:=lK b hb;have:=lE b hb';omega)
        |(have:=lK b hb;have:=lD b hb';omega)
        |(have:=lK b hb;have:=lB b hb';omega)
        |(have:=lD b hb;have:=lE b hb';omega)
        |(have:=lD b hb;have:=lK b hb';omega)
        |(have:=lD b hb;have:=lB b hb';omega)
        |(have:=lB b hb;have:=lE b hb';omega)
        |(have:=lB b hb;have:=lK b hb';omega)
        |(have:=lB b hb;have:=lD b hb';omega)
      ·rw [Raw.fld_big _ g4]at hb';cases hb'
     ·rw [Raw.fld_big _ h4]at hb;cases hb))
   clear oE oK oD oB bE bK bD bB TE TK TD
   (repeat (first|((refine sched_pure (v:=?_) rfl (fun W=>?_) ?_);rotate_left;focus (go_simp;(try with_reducible rfl);done))|((refine sched_read (v:=?_) rfl (fun W hW=>?_) ?_);rotate_left;focus ((try dsimp only at hW);go_simp;(try with_reducible rfl);done))))
   refine sched_last rfl (fun K hK=>?_)
   go_simp
   refine hK _ _ ?_
   clear hK K
   refine sched_end ?_
   go_wp2
   go_roundg (rs.length-(k+1))
   case measure=>omega
   case rel=>exact⟨k+1,by omega,rfl,by go_num,HN.out⟩
  ·have hkk:rs.length≤k:=by omega
   have HE:=Lib.hid (own_end HI hkk hr.1)
   obtain⟨-,-,-,c0,c1,cf,⟨u0,d0⟩,⟨u1,d1⟩,df⟩:=HI
   clear hr hs hB2
   go_wp2
   obtain⟨rs',h1,h2⟩:=HE.out (.slice go rs.length gc) (.int .i64 r0)
   exact bodyPost_ret (v:= .agg #[.slice go rs.length gc, .int .i64 r0]) (by simp [results,Tryd.results74,d0,d1,go_sem]) rfl ⟨_,rs',rfl,h1,h2⟩
end Go.Proofs.YtnjfkcimboidnaaDoor

/- For the walk of tree.Put: what it answers, and a builder made of a copy. -/
namespace Go.Proofs.YtnjfkcimboidnaaDoor
open Go.RowKit
theorem NodesOwn.bd {M:Nat} {w:World} {nv:Value} {rs:List Raw} {t:Tr} {W5:World} (h:NodesOwn M w nv rs t.nodes) (hM:M≤w.heap.size) (h5:W5=w.alloc (.cells #[nv, .int .i64 t.root, .int .i64 0] 139)):Bd M W5 w.heap.size nv rs t:=by
 subst h5
 refine⟨hM,heap_new _ _ rfl,World.ownsRow.alloc h.row _,h.len,fun i r x hr hx=>⟨(h.nds i r x hr hx).leaf,fun f=>World.ownsRow.alloc ((h.nds i r x hr hx).row f) _⟩,h.apart,fun e=>?_,fun i r f b hr hb=>⟨fun e=>?_,h.off i r f b hr hb⟩⟩
 ·have:=(h.row.lt _ e).2;omega
 ·have hi:=(List.getElem?_eq_some_iff.1 hr).1
  rw [h.len]at hi
  have:=(((h.nds i r _ hr (List.getElem?_eq_getElem hi)).row f).lt b hb).2;omega
theorem NodesOwn.mono {M M':Nat} {w:World} {nv:Value} {rs:List Raw} {xs:List Nd} (h:NodesOwn M w nv rs xs) (hM:M'≤M):NodesOwn M' w nv rs xs:=
 ⟨owns_mono h.row hM,h.len,fun i r x hr hx=>⟨(h.nds i r x hr hx).leaf,fun f=>owns_mono ((h.nds i r x hr hx).row f) hM⟩,h.apart,h.off⟩
theorem Bd.root {M:Nat} {w:World} {bb:Nat} {nv:Value} {rs:List Raw} {t:Tr} (h:Bd M w bb nv rs t) (n:Int):Bd M (w.setCell ⟨bb,1,none⟩ (.int .i64 n)) bb nv rs { t with root:=n }:=by
 have hb:∀b,b≠bb→(w.setCell ⟨bb,1,none⟩ (.int .i64 n)).heap[b]?=w.heap[b]?:=fun b hb=>heap_setCell_other w ⟨bb,_,none⟩ b _ hb
 refine⟨h.low,?_,owns_block h.row fun g hg=>hb g (fun e=>h.nbb (by rw [←e];exact hg)),h.len,fun i r x hr hx=>(h.nds i r x hr hx).block fun f g hg=>hb g (h.off i r f g hr hg).1,h.apart,h.nbb,h.off⟩
 have:=heap_setCell_same (off:=1) (v:= .int .i64 n) h.box
 simpa using this
theorem Bd.treeAt {M:Nat} {w:World} {bb:Nat} {nv:Value} {rs:List Raw} {t:Tr} (h:Bd M w bb nv rs t) {ht:Nat} {l:List Int} (hf:Full t ht l) (hl:t.nodes.length≤1000000):TreeAt w (.agg #[nv, .int .i64 t.root]) t:=
 ⟨nv,rfl,h.nodes (by rw [h.len];exact hl) fun x hx f=>by
  have:=hf.node x hx
  rcases Nat.lt_or_ge f 4 with h4|h4
  ·rcases lt4 h4 with rfl|rfl|rfl|rfl
   ·show x.ents.length≤_;omega
   ·show x.keys.length≤_;omega
   ·show x.kids.length≤_;omega
   ·show x.buf.length≤_;omega
  ·obtain⟨k,rfl⟩:∃k,f=k+4:=⟨f-4,by omega⟩
   show 0≤_;omega⟩
abbrev zeroT:Value:= .agg #[.slice none 0 0, .int .i64 0]
def PutOkP (B:Nat) (t:Tr) (e:Ent) (x:Ending) (w':World):Prop:=
 ∃t2 h2 l2,Full t2 h2 l2∧Eqv t2.all (e::t.all)∧wtT t2≤wtT t+1 ∧
  ((treeFault t2=0∧∃v2,x = .returned (.tuple #[v2, .int .i64 0])∧∀w'',Keep B w' w''→TreeAt w'' v2 t2)∨(treeFault t2≠0∧x = .returned (.tuple #[zeroT, .int .i64 1])))
theorem full_len {t t2:Tr} {h h2:Nat} {l l2:List Int} (hf:Full t h l) (hf2:Full t2 h2 l2) (hn:t.nodes.length≤2000) (hw:wtT t2≤wtT t+1):t2.nodes.length≤20000:=by
 obtain⟨k,a1,a2,-⟩:=hf2.bound
 have:=hf.wt_le
 omega
end Go.Proofs.YtnjfkcimboidnaaDoor

/- The walk of tree.Put. -/
namespace Go.Proofs.YtnjfkcimboidnaaDoor
open Go.RowKit
structure P0 (w:World) (ao:Option Addr) (n cap:Nat) (root:Int) (r:Roll) (w':World):Prop where
 below:Below w.heap.size w w'
 size:w.heap.size+3≤w'.heap.size
 t0:w'.cell? ⟨w.heap.size,0,none⟩=some (.slice ao n cap)
 t1:w'.cell? ⟨w.heap.size,1,none⟩=some (.int .i64 root)
 r0:w'.cell? ⟨w.heap.size+1,0,none⟩=some (.int .i64 r.c)
 r1:w'.cell? ⟨w.heap.size+1,1,none⟩=some (.int .i64 r.s)
 r2:w'.cell? ⟨w.heap.size+1,2,none⟩=some (.int .i64 r.mi)
 r3:w'.cell? ⟨w.heap.size+1,3,none⟩=some (.int .i64 r.ma)
 r4:w'.cell? ⟨w.heap.size+1,4,none⟩=some (.int .i64 r.t)
 r5:w'.cell? ⟨w.heap.size+1,5,none⟩=some (.int .i64 r.l)
 z0:w'.cell? ⟨w.heap.size+2,0,none⟩=some (.slice none 0 0)
 z1:w'.cell? ⟨w.heap.size+2,1,none⟩=some (.int .i64 0)
 zf:∀o,w'.frozen? ⟨w.heap.size+2,o,none⟩=false
theorem P0.start (w:World) (ao:Option Addr) (n cap:Nat) (root:Int) (r:Roll) {W0:World} (h:W0=((w.alloc (.cells #[.slice ao n cap, .int .i64 root] 32)).alloc (.cells #[.int .i64 r.c, .int .i64 r.s, .int .i64 r.mi, .int .i64 r.ma, .int .i64 r.t, .int .i64 r.l] 42)).alloc (.cells #[.slice none 0 0, .int .i64 0] 32)) :
  P0 w ao n cap root r W0:=by
 have k0:W0.heap[w.heap.size]?=some (.cells #[.slice ao n cap, .int .i64 root] 32):=by
  rw [h,Below.heap_alloc _ _ _ (by simp;omega),Below.heap_alloc _ _ _ (by simp)];exact heap_new _ _ rfl
 have k1:W0.heap[w.heap.size+1]?=some (.cells #[.int .i64 r.c, .int .i64 r.s, .int .i64 r.mi, .int .i64 r.ma, .int .i64 r.t, .int .i64 r.l] 42):=by
  rw [h,Below.heap_alloc _ _ _ (by simp)];exact heap_new _ _ (by simp)
 have k2:W0.heap[w.heap.size+2]?=some (.cells #[.slice none 0 0, .int .i64 0] 32):=by
  rw [h];exact heap_new _ _ (by simp)
 refine⟨by rw [h];exact belowAuto,by rw [h];simp,?_,?_,?_,?_,?_,?_,?_,?_,?_,?_,fun o=>?_⟩
 all_goals simp [World.cell?,World.frozen?,k0,k1,k2]
theorem P0.later {w:World} {ao:Option Addr} {n cap:Nat} {root:Int} {r:Roll} {w1 w2:World} {B:Nat} (h:P0 w ao n cap root r w1) (hb:Below B w1 w2) (hB:w.heap.size+3≤B):P0 w ao n cap root r w2:=by
 have hs:=h.size
 have c:∀b o,b<w.heap.size+3→w2.cell? ⟨b,o,none⟩=w1.cell? ⟨b,o,none⟩:=fun b o h=>hb.cell (p:=⟨b,o,none⟩) (by show b<B;omega)
 refine⟨⟨hb.os.trans h.below.os,hb.tape.trans h.below.tape,hb.output.trans h.below.output,Nat.le_trans h.below.size hb.size,fun k hk=>(hb.block k (by omega)).trans (h.below.block k hk)⟩,by have:=hb.size;omega,(c _ _ (by omega)).trans h.t0,(c _ _ (by omega)).trans h.t1,
  (c _ _ (by omega)).trans h.r0,(c _ _ (by omega)).trans h.r1,(c _ _ (by omega)).trans h.r2,(c _ _ (by omega)).trans h.r3,(c _ _ (by omega)).trans h.r4,(c _ _ (by omega)).trans h.r5,(c _ _ (by omega)).trans h.z0,(c _ _ (by omega)).trans h.z1,
  fun o=>(hb.frozen (p:=⟨w.heap.size+2,o,none⟩) (by show w.heap.size+2<B;omega)).trans (h.zf o)⟩
theorem made_row {M:Nat} {w:World} {b:Nat} {e:TypeId} {us:List Value} {n:Nat} (hM:M≤b) (h:w.heap[b]?=some (.cells us.toArray e)) (hn:us.length=n) (hl:n≤1000):w.ownsRow M e 1 (.slice (some ⟨b,0,none⟩) n n) n us:=
 ⟨by rw [hn];simp, .inr ⟨b,n,us.toArray,rfl,hM,h,Nat.le_refl _,by unfold maxLen;omega,by simp [hn],by simp [←hn]⟩⟩
theorem got_at {t:Tr} {key:Int} (hf:treeFault t=0) (hk0:0≤key) (hk:key<1099511627776):gotS t key=getA t key:=by
 rw [gotS_eq,if_pos hf,if_pos ⟨hk0,by omega⟩]
 exact getS_eq (treeFault_ok hf).2 hk0 hk
theorem got_bad {t:Tr} {key:Int} (hf:treeFault t=0) (hk0:0≤key) (hk:key<1099511627776) (hl:1073741824<(look t.all key).c):gotS t key=(Roll.zero,1):=by
 rw [got_at hf hk0 hk];unfold getA;rw [if_neg (by omega)]
theorem got_good {t:Tr} {key:Int} (hf:treeFault t=0) (hk0:0≤key) (hk:key<1099511627776) (hl:(look t.all key).c≤1073741824):gotS t key=(look t.all key,0):=by
 rw [got_at hf hk0 hk];unfold getA;rw [if_pos hl]
theorem look_check {t:Tr} {key:Int} (hf:treeFault t=0) (hl:(look t.all key).c≤1073741824):rollCheck (look t.all key)=0:=
 (check_iff _).2 ⟨look_fine (valid_checked (treeFault_ok hf).2).goods.fines key,hl⟩
theorem merge_bad {t:Tr} {key:Int} {r:Roll} (hf:treeFault t=0) (hr:rollCheck r=0) (hl:(look t.all key).c≤1073741824) (hm:1073741824<(look t.all key).c+r.c):rollMerge (look t.all key) r=(Roll.zero,1):=by
 rw [merge_fine (look_check hf hl) hr,if_neg (by omega)]
theorem merge_good {t:Tr} {key:Int} {r:Roll} (hf:treeFault t=0) (hr:rollCheck r=0) (hl:(look t.all key).c≤1073741824) (hm:(look t.all key).c+r.c≤1073741824):rollMerge (look t.all key) r=((look t.all key).join r,0):=by
 rw [merge_fine (look_check hf hl) hr,if_pos (by omega)]
set_option maxRecDepth 100000 in
set_option maxHeartbeats 4000000 in
theorem put_fault {ao:Option Addr} {cap:Nat} {t:Tr} {key:Int} {r:Roll} {w:World} (hn:NodesAt w (.slice ao t.nodes.length cap) t.nodes) (hf:treeFault t≠0) :
  Calls Tryd.prog 48 #[.agg #[.slice ao t.nodes.length cap, .int .i64 t.root], .int .i64 key, .agg #[.int .i64 r.c, .int .i64 r.s, .int .i64 r.mi, .int .i64 r.ma, .int .i64 r.t, .int .i64 r.l]] w fun x w'=>Below w.heap.size w w'∧x = .returned (.tuple #[zeroT, .int .i64 (treeFault t)]):=by
 obtain⟨W0,hW0⟩:∃W0,W0=((w.alloc (.cells #[.slice ao t.nodes.length cap, .int .i64 t.root] 32)).alloc (.cells #[.int .i64 r.c, .int .i64 r.s, .int .i64 r.mi, .int .i64 r.ma, .int .i64 r.t, .int .i64 r.l] 42)).alloc (.cells #[.slice none 0 0, .int .i64 0] 32):=⟨_,rfl⟩
 have h0:=P0.start w ao t.nodes.length cap t.root r hW0
 have HP0:=Lib.hid h0
 have HT:=Lib.hid (show ∀w',Below w.heap.size w w'→TreeAt w' (.agg #[.slice ao t.nodes.length cap, .int .i64 t.root]) t from fun w' hb=>⟨_,rfl,hn.below hb (Nat.le_refl _)⟩)
 have HCK:=Lib.hid (treeCheck_any (HT.out W0 h0.below))
 have HN:=Lib.hid (show ∀w',Below w.heap.size w w'→NodesAt w' (.slice ao t.nodes.length cap) t.nodes from fun w' hb=>hn.below hb (Nat.le_refl _))
 have z0:=h0.size
 obtain⟨-,-,q0,q1,-,-,-,-,-,-,-,-,-⟩:=h0
 clear hn
 skip
 go_enter Tryd.func48,Tryd.ntmps48
 go_upto_region 1 with (fail)
 rw [←hW0]
 clear hW0
 skip
 have d2:(treeFault t != 0)=true:=by simp [hf]
 obtain⟨F,hF⟩:∃F,treeFault t=F:=⟨_,rfl⟩
 rw [hF]at HCK d2
 have HF:=Lib.hid hF
 clear hf hF
 go_wp2_with (first|(go_at_call 70;(with_reducible refine HCK.out.mono ?_);rintro e w1 ⟨rfl,hb1⟩;have hp1:=HP0.out.later hb1 z0;have HP1:=Lib.hid hp1;have z1:=hp1.size;obtain⟨-,-,q0',q1',r0,r1,r2,r3,r4,r5,c0,c1,cf⟩:=hp1;clear hb1 q0 q1))
 have hbw:=HP1.out.below
 exact bodyPost_ret (v:= .tuple #[zeroT, .int .i64 F]) (by simp [results,Tryd.results48,go_sem, *]) rfl ⟨belowAuto,(by rw [HF.out])⟩
set_option maxRecDepth 100000 in
set_option maxHeartbeats 4000000 in
theorem put_low {ao:Option Addr} {cap:Nat} {t:Tr} {key:Int} {r:Roll} {w:World} (hn:NodesAt w (.slice ao t.nodes.length cap) t.nodes) (hf:treeFault t=0) (hk:key<0) :
  Calls Tryd.prog 48 #[.agg #[.slice ao t.nodes.length cap, .int .i64 t.root], .int .i64 key, .agg #[.int .i64 r.c, .int .i64 r.s, .int .i64 r.mi, .int .i64 r.ma, .int .i64 r.t, .int .i64 r.l]] w fun x w'=>Below w.heap.size w w'∧x = .returned (.tuple #[zeroT, .int .i64 2]):=by
 obtain⟨W0,hW0⟩:∃W0,W0=((w.alloc (.cells #[.slice ao t.nodes.length cap, .int .i64 t.root] 32)).alloc (.cells #[.int .i64 r.c, .int .i64 r.s, .int .i64 r.mi, .int .i64 r.ma, .int .i64 r.t, .int .i64 r.l] 42)).alloc (.cells #[.slice none 0 0, .int .i64 0] 32):=⟨_,rfl⟩
 have h0:=P0.start w ao t.nodes.length cap t.root r hW0
 have HP0:=Lib.hid h0
 have HT:=Lib.hid (show ∀w',Below w.heap.size w w'→TreeAt w' (.agg #[.slice ao t.nodes.length cap, .int .i64 t.root]) t from fun w' hb=>⟨_,rfl,hn.below hb (Nat.le_refl _)⟩)
 have HCK:=Lib.hid (treeCheck_any (HT.out W0 h0.below))
 have HN:=Lib.hid (show ∀w',Below w.heap.size w w'→NodesAt w' (.slice ao t.nodes.length cap) t.nodes from fun w' hb=>hn.below hb (Nat.le_refl _))
 have z0:=h0.size
 obtain⟨-,-,q0,q1,-,-,-,-,-,-,-,-,-⟩:=h0
 clear hn
 skip
 go_enter Tryd.func48,Tryd.ntmps48
 go_upto_region 1 with (fail)
 rw [←hW0]
 clear hW0
 skip
 rw [hf]at HCK
 clear hf
 go_wp2_with (first|(go_at_call 70;(with_reducible refine HCK.out.mono ?_);rintro e w1 ⟨rfl,hb1⟩;have hp1:=HP0.out.later hb1 z0;have HP1:=Lib.hid hp1;have z1:=hp1.size;obtain⟨-,-,q0',q1',r0,r1,r2,r3,r4,r5,c0,c1,cf⟩:=hp1;clear hb1 q0 q1))
 have hbw:=HP1.out.below
 exact bodyPost_ret (v:= .tuple #[zeroT, .int .i64 2]) (by simp [results,Tryd.results48,go_sem, *]) rfl ⟨belowAuto,rfl⟩
set_option maxRecDepth 100000 in
set_option maxHeartbeats 4000000 in
theorem put_high {ao:Option Addr} {cap:Nat} {t:Tr} {key:Int} {r:Roll} {w:World} (hn:NodesAt w (.slice ao t.nodes.length cap) t.nodes) (hf:treeFault t=0) (hk0:0≤key) (hk:1099511627776≤key) :
  Calls Tryd.prog 48 #[.agg #[.slice ao t.nodes.length cap, .int .i64 t.root], .int .i64 key, .agg #[.int .i64 r.c, .int .i64 r.s, .int .i64 r.mi, .int .i64 r.ma, .int .i64 r.t, .int .i64 r.l]] w fun x w'=>Below w.heap.size w w'∧x = .returned (.tuple #[zeroT, .int .i64 2]):=by
 obtain⟨W0,hW0⟩:∃W0,W0=((w.alloc (.cells #[.slice ao t.nodes.length cap, .int .i64 t.root] 32)).alloc (.cells #[.int .i64 r.c, .int .i64 r.s, .int .i64 r.mi, .int .i64 r.ma, .int .i64 r.t, .int .i64 r.l] 42)).alloc (.cells #[.slice none 0 0, .int .i64 0] 32):=⟨_,rfl⟩
 have h0:=P0.start w ao t.nodes.length cap t.root r hW0
 have HP0:=Lib.hid h0
 have HT:=Lib.hid (show ∀w',Below w.heap.size w w'→TreeAt w' (.agg #[.slice ao t.nodes.length cap, .int .i64 t.root]) t from fun w' hb=>⟨_,rfl,hn.below hb (Nat.le_refl _)⟩)
 have HCK:=Lib.hid (treeCheck_any (HT.out W0 h0.below))
 have HN:=Lib.hid (show ∀w',Below w.heap.size w w'→NodesAt w' (.slice ao t.nodes.length cap) t.nodes from fun w' hb=>hn.below hb (Nat.le_refl _))
 have z0:=h0.size
 obtain⟨-,-,q0,q1,-,-,-,-,-,-,-,-,-⟩:=h0
 clear hn
 skip
 go_enter Tryd.func48,Tryd.ntmps48
 go_upto_region 1 with (fail)
 rw [←hW0]
 clear hW0
 skip
 rw [hf]at HCK
 clear hf
 go_wp2_with (first|(go_at_call 70;(with_reducible refine HCK.out.mono ?_);rintro e w1 ⟨rfl,hb1⟩;have hp1:=HP0.out.later hb1 z0;have HP1:=Lib.hid hp1;have z1:=hp1.size;obtain⟨-,-,q0',q1',r0,r1,r2,r3,r4,r5,c0,c1,cf⟩:=hp1;clear hb1 q0 q1))
 have hbw:=HP1.out.below
 exact bodyPost_ret (v:= .tuple #[zeroT, .int .i64 2]) (by simp [results,Tryd.results48,go_sem, *]) rfl ⟨belowAuto,rfl⟩
set_option maxRecDepth 100000 in
set_option maxHeartbeats 4000000 in
theorem put_none {ao:Option Addr} {cap:Nat} {t:Tr} {key:Int} {r:Roll} {w:World} (hn:NodesAt w (.slice ao t.nodes.length cap) t.nodes) (hf:treeFault t=0) (hk0:0≤key) (hk:key<1099511627776) (hc:r.c=0) :
  Calls Tryd.prog 48 #[.agg #[.slice ao t.nodes.length cap, .int .i64 t.root], .int .i64 key, .agg #[.int .i64 r.c, .int .i64 r.s, .int .i64 r.mi, .int .i64 r.ma, .int .i64 r.t, .int .i64 r.l]] w fun x w'=>Below w.heap.size w w'∧x = .returned (.tuple #[zeroT, .int .i64 2]):=by
 obtain⟨W0,hW0⟩:∃W0,W0=((w.alloc (.cells #[.slice ao t.nodes.length cap, .int .i64 t.root] 32)).alloc (.cells #[.int .i64 r.c, .int .i64 r.s, .int .i64 r.mi, .int .i64 r.ma, .int .i64 r.t, .int .i64 r.l] 42)).alloc (.cells #[.slice none 0 0, .int .i64 0] 32):=⟨_,rfl⟩
 have h0:=P0.start w ao t.nodes.length cap t.root r hW0
 have HP0:=Lib.hid h0
 have HT:=Lib.hid (show ∀w',Below w.heap.size w w'→TreeAt w' (.agg #[.slice ao t.nodes.length cap, .int .i64 t.root]) t from fun w' hb=>⟨_,rfl,hn.below hb (Nat.le_refl _)⟩)
 have HCK:=Lib.hid (treeCheck_any (HT.out W0 h0.below))
 have HN:=Lib.hid (show ∀w',Below w.heap.size w w'→NodesAt w' (.slice ao t.nodes.length cap) t.nodes from fun w' hb=>hn.below hb (Nat.le_refl _))
 have z0:=h0.size
 obtain⟨-,-,q0,q1,-,-,-,-,-,-,-,-,-⟩:=h0
 clear hn
 have HC:=Lib.hid hc;clear hc
 go_enter Tryd.func48,Tryd.ntmps48
 go_upto_region 1 with (fail)
 rw [←hW0]
 clear hW0
 have hc:=HC.out
 rw [hf]at HCK
 clear hf
 go_wp2_with (first|(go_at_call 70;(with_reducible refine HCK.out.mono ?_);rintro e w1 ⟨rfl,hb1⟩;have hp1:=HP0.out.later hb1 z0;have HP1:=Lib.hid hp1;have z1:=hp1.size;obtain⟨-,-,q0',q1',r0,r1,r2,r3,r4,r5,c0,c1,cf⟩:=hp1;clear hb1 q0 q1))
 have hbw:=HP1.out.below
 exact bodyPost_ret (v:= .tuple #[zeroT, .int .i64 2]) (by simp [results,Tryd.results48,go_sem, *]) rfl ⟨belowAuto,rfl⟩
set_option maxRecDepth 100000 in
set_option maxHeartbeats 4000000 in
theorem put_roll {ao:Option Addr} {cap:Nat} {t:Tr} {key:Int} {r:Roll} {w:World} (hn:NodesAt w (.slice ao t.nodes.length cap) t.nodes) (hf:treeFault t=0) (hk0:0≤key) (hk:key<1099511627776) (hc:r.c≠0) (hr:rollCheck r≠0) :
  Calls Tryd.prog 48 #[.agg #[.slice ao t.nodes.length cap, .int .i64 t.root], .int .i64 key, .agg #[.int .i64 r.c, .int .i64 r.s, .int .i64 r.mi, .int .i64 r.ma, .int .i64 r.t, .int .i64 r.l]] w fun x w'=>Below w.heap.size w w'∧x = .returned (.tuple #[zeroT, .int .i64 (rollCheck r)]):=by
 obtain⟨W0,hW0⟩:∃W0,W0=((w.alloc (.cells #[.slice ao t.nodes.length cap, .int .i64 t.root] 32)).alloc (.cells #[.int .i64 r.c, .int .i64 r.s, .int .i64 r.mi, .int .i64 r.ma, .int .i64 r.t, .int .i64 r.l] 42)).alloc (.cells #[.slice none 0 0, .int .i64 0] 32):=⟨_,rfl⟩
 have h0:=P0.start w ao t.nodes.length cap t.root r hW0
 have HP0:=Lib.hid h0
 have HT:=Lib.hid (show ∀w',Below w.heap.size w w'→TreeAt w' (.agg #[.slice ao t.nodes.length cap, .int .i64 t.root]) t from fun w' hb=>⟨_,rfl,hn.below hb (Nat.le_refl _)⟩)
 have HCK:=Lib.hid (treeCheck_any (HT.out W0 h0.below))
 have HN:=Lib.hid (show ∀w',Below w.heap.size w w'→NodesAt w' (.slice ao t.nodes.length cap) t.nodes from fun w' hb=>hn.below hb (Nat.le_refl _))
 have z0:=h0.size
 obtain⟨-,-,q0,q1,-,-,-,-,-,-,-,-,-⟩:=h0
 clear hn
 have HC:=Lib.hid (And.intro hc hr);clear hc hr
 go_enter Tryd.func48,Tryd.ntmps48
 go_upto_region 1 with (fail)
 rw [←hW0]
 clear hW0
 obtain⟨hc,hr⟩:=HC.out;have b1:¬key<0:=(by omega);have b2:¬1099511627776≤key:=(by omega);have b3:(r.c == 0)=false:=(by simp [hc]);have hd:=And.intro b1 (And.intro b2 b3);clear hd
 rw [hf]at HCK
 have d2:(rollCheck r != 0)=true:=by simp [hr]
 obtain⟨F,hF⟩:∃F,rollCheck r=F:=⟨_,rfl⟩
 rw [hF]at d2
 have HF:=Lib.hid hF
 clear hf hr hF
 go_wp2_with (first|(go_at_call 70;(with_reducible refine HCK.out.mono ?_);rintro e w1 ⟨rfl,hb1⟩;have hp1:=HP0.out.later hb1 z0;have HP1:=Lib.hid hp1;have z1:=hp1.size;obtain⟨-,-,q0',q1',r0,r1,r2,r3,r4,r5,c0,c1,cf⟩:=hp1;clear hb1 q0 q1)|(go_at_call 38;(with_reducible refine(check_below (r:=r) (Below.refl _ w1)).mono ?_);rw [HF.out];rintro e w2 ⟨rfl,hb2⟩;have hp2:=HP1.out.later hb2 z1;have HP2:=Lib.hid hp2;have z2:=hp2.size;clear r0 r1 r2 r3 r4 r5 c0 c1 cf q0' q1';obtain⟨-,-,q0,q1,r0,r1,r2,r3,r4,r5,c0,c1,cf⟩:=hp2;clear hb2))
 have hbw:=HP2.out.below
 exact bodyPost_ret (v:= .tuple #[zeroT, .int .i64 F]) (by simp [results,Tryd.results48,go_sem, *]) rfl ⟨belowAuto,(by rw [HF.out])⟩
set_option maxRecDepth 100000 in
set_option maxHeartbeats 4000000 in
theorem put_get {ao:Option Addr} {cap:Nat} {t:Tr} {key:Int} {r:Roll} {w:World} (hn:NodesAt w (.slice ao t.nodes.length cap) t.nodes) (hf:treeFault t=0) (hk0:0≤key) (hk:key<1099511627776) (hc:r.c≠0) (hr:rollCheck r=0) (hl:1073741824<(look t.all key).c) :
  Calls Tryd.prog 48 #[.agg #[.slice ao t.nodes.length cap, .int .i64 t.root], .int .i64 key, .agg #[.int .i64 r.c, .int .i64 r.s, .int .i64 r.mi, .int .i64 r.ma, .int .i64 r.t, .int .i64 r.l]] w fun x w'=>Below w.heap.size w w'∧x = .returned (.tuple #[zeroT, .int .i64 1]):=by
 obtain⟨W0,hW0⟩:∃W0,W0=((w.alloc (.cells #[.slice ao t.nodes.length cap, .int .i64 t.root] 32)).alloc (.cells #[.int .i64 r.c, .int .i64 r.s, .int .i64 r.mi, .int .i64 r.ma, .int .i64 r.t, .int .i64 r.l] 42)).alloc (.cells #[.slice none 0 0, .int .i64 0] 32):=⟨_,rfl⟩
 have h0:=P0.start w ao t.nodes.length cap t.root r hW0
 have HP0:=Lib.hid h0
 have HT:=Lib.hid (show ∀w',Below w.heap.size w w'→TreeAt w' (.agg #[.slice ao t.nodes.length cap, .int .i64 t.root]) t from fun w' hb=>⟨_,rfl,hn.below hb (Nat.le_refl _)⟩)
 have HCK:=Lib.hid (treeCheck_any (HT.out W0 h0.below))
 have HN:=Lib.hid (show ∀w',Below w.heap.size w w'→NodesAt w' (.slice ao t.nodes.length cap) t.nodes from fun w' hb=>hn.below hb (Nat.le_refl _))
 have z0:=h0.size
 obtain⟨-,-,q0,q1,-,-,-,-,-,-,-,-,-⟩:=h0
 clear hn
 have HG:=Lib.hid (got_bad hf hk0 hk hl);have HC:=Lib.hid (And.intro hc hr);clear hc hr;clear hl
 go_enter Tryd.func48,Tryd.ntmps48
 go_upto_region 1 with (fail)
 rw [←hW0]
 clear hW0
 obtain⟨hc,hr⟩:=HC.out;have b1:¬key<0:=(by omega);have b2:¬1099511627776≤key:=(by omega);have b3:(r.c == 0)=false:=(by simp [hc]);have hd:=And.intro b1 (And.intro b2 b3);clear hd
 rw [hf]at HCK
 clear hf
 go_upto_region 10 with (first|(go_at_call 70;(with_reducible refine HCK.out.mono ?_);rintro e w1 ⟨rfl,hb1⟩;have hp1:=HP0.out.later hb1 z0;have HP1:=Lib.hid hp1;have z1:=hp1.size;obtain⟨-,-,q0',q1',r0,r1,r2,r3,r4,r5,c0,c1,cf⟩:=hp1;clear hb1 q0 q1)|(go_at_call 38;(with_reducible refine(check_below (r:=r) (Below.refl _ w1)).mono ?_);rw [hr];rintro e w2 ⟨rfl,hb2⟩;have hp2:=HP1.out.later hb2 z1;have HP2:=Lib.hid hp2;have z2:=hp2.size;clear r0 r1 r2 r3 r4 r5 c0 c1 cf q0' q1';obtain⟨-,-,q0,q1,r0,r1,r2,r3,r4,r5,c0,c1,cf⟩:=hp2;clear hb2)|(go_at_call 50;(with_reducible refine(get_any (key:=key) (HT.out w2 HP2.out.below)).mono ?_);rw [HG.out];rintro e w3 ⟨rfl,hb3⟩;have hp3:=HP2.out.later hb3 z2;have HP3:=Lib.hid hp3;have z3:=hp3.size;clear r0 r1 r2 r3 r4 r5 c0 c1 cf q0 q1;obtain⟨-,-,q0,q1,r0,r1,r2,r3,r4,r5,c0,c1,cf⟩:=hp3;clear hb3))
 obtain⟨W3,hW3⟩:∃W3,W3=w3.alloc (.cells #[.int .i64 Roll.zero.c, .int .i64 Roll.zero.s, .int .i64 Roll.zero.mi, .int .i64 Roll.zero.ma, .int .i64 Roll.zero.t, .int .i64 Roll.zero.l] 42):=⟨_,rfl⟩
 have hb3:Below w3.heap.size w3 W3:=by rw [hW3];exact belowAuto
 have l3:W3.heap[w3.heap.size]?=some (.cells #[.int .i64 Roll.zero.c, .int .i64 Roll.zero.s, .int .i64 Roll.zero.mi, .int .i64 Roll.zero.ma, .int .i64 Roll.zero.t, .int .i64 Roll.zero.l] 42):=by rw [hW3];exact heap_new _ _ rfl
 have zz3:W3.heap.size=w3.heap.size+1:=by rw [hW3];simp
 have HPW:=Lib.hid (HP3.out.later hb3 z3)
 rw [←hW3]
 clear r0 r1 r2 r3 r4 r5 c0 c1 cf q0 q1 hW3 hb3
 obtain⟨-,-,q0,q1,r0,r1,r2,r3,r4,r5,c0,c1,cf⟩:=HPW.out
 clear l3
 go_wp2_with fail
 have hbw:=HPW.out.below
 exact bodyPost_ret (v:= .tuple #[zeroT, .int .i64 1]) (by simp [results,Tryd.results48,go_sem, *]) rfl ⟨belowAuto,rfl⟩
set_option maxRecDepth 100000 in
set_option maxHeartbeats 4000000 in
theorem put_merge {ao:Option Addr} {cap:Nat} {t:Tr} {key:Int} {r:Roll} {w:World} (hn:NodesAt w (.slice ao t.nodes.length cap) t.nodes) (hf:treeFault t=0) (hk0:0≤key) (hk:key<1099511627776) (hc:r.c≠0) (hr:rollCheck r=0) (hl:(look t.all key).c≤1073741824) (hm:1073741824<(look t.all key).c+r.c) :
  Calls Tryd.prog 48 #[.agg #[.slice ao t.nodes.length cap, .int .i64 t.root], .int .i64 key, .agg #[.int .i64 r.c, .int .i64 r.s, .int .i64 r.mi, .int .i64 r.ma, .int .i64 r.t, .int .i64 r.l]] w fun x w'=>Below w.heap.size w w'∧x = .returned (.tuple #[zeroT, .int .i64 1]):=by
 obtain⟨W0,hW0⟩:∃W0,W0=((w.alloc (.cells #[.slice ao t.nodes.length cap, .int .i64 t.root] 32)).alloc (.cells #[.int .i64 r.c, .int .i64 r.s, .int .i64 r.mi, .int .i64 r.ma, .int .i64 r.t, .int .i64 r.l] 42)).alloc (.cells #[.slice none 0 0, .int .i64 0] 32):=⟨_,rfl⟩
 have h0:=P0.start w ao t.nodes.length cap t.root r hW0
 have HP0:=Lib.hid h0
 have HT:=Lib.hid (show ∀w',Below w.heap.size w w'→TreeAt w' (.agg #[.slice ao t.nodes.length cap, .int .i64 t.root]) t from fun w' hb=>⟨_,rfl,hn.below hb (Nat.le_refl _)⟩)
 have HCK:=Lib.hid (treeCheck_any (HT.out W0 h0.below))
 have HN:=Lib.hid (show ∀w',Below w.heap.size w w'→NodesAt w' (.slice ao t.nodes.length cap) t.nodes from fun w' hb=>hn.below hb (Nat.le_refl _))
 have z0:=h0.size
 obtain⟨-,-,q0,q1,-,-,-,-,-,-,-,-,-⟩:=h0
 clear hn
 have HG:=Lib.hid (got_good hf hk0 hk hl);have HM:=Lib.hid (merge_bad hf hr hl hm);have HC:=Lib.hid (And.intro hc hr);clear hc hr;clear hl hm
 go_enter Tryd.func48,Tryd.ntmps48
 go_upto_region 1 with (fail)
 rw [←hW0]
 clear hW0
 obtain⟨hc,hr⟩:=HC.out;have b1:¬key<0:=(by omega);have b2:¬1099511627776≤key:=(by omega);have b3:(r.c == 0)=false:=(by simp [hc]);have hd:=And.intro b1 (And.intro b2 b3);clear hd;obtain⟨L,hL⟩:∃L,look t.all key=L:=⟨_,rfl⟩;rw [hL]at HG HM;clear hL
 rw [hf]at HCK
 clear hf
 go_upto_region 10 with (first|(go_at_call 70;(with_reducible refine HCK.out.mono ?_);rintro e w1 ⟨rfl,hb1⟩;have hp1:=HP0.out.later hb1 z0;have HP1:=Lib.hid hp1;have z1:=hp1.size;obtain⟨-,-,q0',q1',r0,r1,r2,r3,r4,r5,c0,c1,cf⟩:=hp1;clear hb1 q0 q1)|(go_at_call 38;(with_reducible refine(check_below (r:=r) (Below.refl _ w1)).mono ?_);rw [hr];rintro e w2 ⟨rfl,hb2⟩;have hp2:=HP1.out.later hb2 z1;have HP2:=Lib.hid hp2;have z2:=hp2.size;clear r0 r1 r2 r3 r4 r5 c0 c1 cf q0' q1';obtain⟨-,-,q0,q1,r0,r1,r2,r3,r4,r5,c0,c1,cf⟩:=hp2;clear hb2)|(go_at_call 50;(with_reducible refine(get_any (key:=key) (HT.out w2 HP2.out.below)).mono ?_);rw [HG.out];rintro e w3 ⟨rfl,hb3⟩;have hp3:=HP2.out.later hb3 z2;have HP3:=Lib.hid hp3;have z3:=hp3.size;clear r0 r1 r2 r3 r4 r5 c0 c1 cf q0 q1;obtain⟨-,-,q0,q1,r0,r1,r2,r3,r4,r5,c0,c1,cf⟩:=hp3;clear hb3))
 obtain⟨W3,hW3⟩:∃W3,W3=w3.alloc (.cells #[.int .i64 L.c, .int .i64 L.s, .int .i64 L.mi, .int .i64 L.ma, .int .i64 L.t, .int .i64 L.l] 42):=⟨_,rfl⟩
 have hb3:Below w3.heap.size w3 W3:=by rw [hW3];exact belowAuto
 have l3:W3.heap[w3.heap.size]?=some (.cells #[.int .i64 L.c, .int .i64 L.s, .int .i64 L.mi, .int .i64 L.ma, .int .i64 L.t, .int .i64 L.l] 42):=by rw [hW3];exact heap_new _ _ rfl
 have zz3:W3.heap.size=w3.heap.size+1:=by rw [hW3];simp
 have HPW:=Lib.hid (HP3.out.later hb3 z3)
 rw [←hW3]
 clear r0 r1 r2 r3 r4 r5 c0 c1 cf q0 q1 hW3 hb3
 obtain⟨-,-,q0,q1,r0,r1,r2,r3,r4,r5,c0,c1,cf⟩:=HPW.out
 obtain⟨m0,m1,m2,m3,m4,m5⟩:W3.cell? ⟨w3.heap.size,0,none⟩=some (.int .i64 L.c)∧W3.cell? ⟨w3.heap.size,1,none⟩=some (.int .i64 L.s)∧W3.cell? ⟨w3.heap.size,2,none⟩=some (.int .i64 L.mi)∧W3.cell? ⟨w3.heap.size,3,none⟩=some (.int .i64 L.ma)∧W3.cell? ⟨w3.heap.size,4,none⟩=some (.int .i64 L.t)∧W3.cell? ⟨w3.heap.size,5,none⟩=some (.int .i64 L.l):=by simp [World.cell?,l3]
 clear l3
 go_upto_region 13 with (first|(go_at_call 19;(with_reducible refine(merge_any L r W3).mono ?_);rw [HM.out];rintro e w4 ⟨rfl,hb4⟩))
 obtain⟨W4,hW4⟩:∃W4,W4=w4.alloc (.cells #[.int .i64 Roll.zero.c, .int .i64 Roll.zero.s, .int .i64 Roll.zero.mi, .int .i64 Roll.zero.ma, .int .i64 Roll.zero.t, .int .i64 Roll.zero.l] 42):=⟨_,rfl⟩
 have hb4':Below W3.heap.size W3 W4:=by rw [hW4];exact Below.trans' hb4 ((Below.refl _ _).alloc (Nat.le_refl _) _) hb4.size
 have zz4:W4.heap.size=w4.heap.size+1:=by rw [hW4];simp
 have z4:w.heap.size+3≤W4.heap.size:=by have:=hb4'.size;omega
 have HPX:=Lib.hid (HPW.out.later hb4' (by omega))
 rw [←hW4]
 clear r0 r1 r2 r3 r4 r5 c0 c1 cf q0 q1 hW4 hb4 m0 m1 m2 m3 m4 m5
 obtain⟨-,-,q0,q1,r0,r1,r2,r3,r4,r5,c0,c1,cf⟩:=HPX.out
 go_wp2_with fail
 have hbw:=HPX.out.below
 exact bodyPost_ret (v:= .tuple #[zeroT, .int .i64 1]) (by simp [results,Tryd.results48,go_sem, *]) rfl ⟨belowAuto,rfl⟩
set_option maxRecDepth 100000 in
set_option maxHeartbeats 4000000 in
theorem put_good {ao:Option Addr} {cap:Nat} {t:Tr} {key:Int} {r:Roll} {w:World} (hn:NodesAt w (.slice ao t.nodes.length cap) t.nodes) (hf:treeFault t=0) (hk0:0≤key) (hk:key<1099511627776) (hc:r.c≠0) (hr:rollCheck r=0) (hm:(look t.all key).c+r.c≤1073741824) (hs:Small (⟨key,r⟩::t.all)) :
  Calls Tryd.prog 48 #[.agg #[.slice ao t.nodes.length cap, .int .i64 t.root], .int .i64 key, .agg #[.int .i64 r.c, .int .i64 r.s, .int .i64 r.mi, .int .i64 r.ma, .int .i64 r.t, .int .i64 r.l]] w fun x w'=>Below w.heap.size w w'∧PutOkP w.heap.size t ⟨key,r⟩ x w':=by
 obtain⟨W0,hW0⟩:∃W0,W0=((w.alloc (.cells #[.slice ao t.nodes.length cap, .int .i64 t.root] 32)).alloc (.cells #[.int .i64 r.c, .int .i64 r.s, .int .i64 r.mi, .int .i64 r.ma, .int .i64 r.t, .int .i64 r.l] 42)).alloc (.cells #[.slice none 0 0, .int .i64 0] 32):=⟨_,rfl⟩
 have h0:=P0.start w ao t.nodes.length cap t.root r hW0
 have HP0:=Lib.hid h0
 have HT:=Lib.hid (show ∀w',Below w.heap.size w w'→TreeAt w' (.agg #[.slice ao t.nodes.length cap, .int .i64 t.root]) t from fun w' hb=>⟨_,rfl,hn.below hb (Nat.le_refl _)⟩)
 have HCK:=Lib.hid (treeCheck_any (HT.out W0 h0.below))
 have HN:=Lib.hid (show ∀w',Below w.heap.size w w'→NodesAt w' (.slice ao t.nodes.length cap) t.nodes from fun w' hb=>hn.below hb (Nat.le_refl _))
 have z0:=h0.size
 obtain⟨-,-,q0,q1,-,-,-,-,-,-,-,-,-⟩:=h0
 clear hn
 have hl:(look t.all key).c≤1073741824:=by
  have:=(good_check hr hc).1.1;omega
 have HG:=Lib.hid (got_good hf hk0 hk hl)
 have HM:=Lib.hid (merge_good hf hr hl hm)
 obtain⟨hn2000,hvt⟩:=treeFault_ok hf
 obtain⟨l,h,hh,hfull⟩:=valid_full hvt
 obtain⟨t1,more,key',t2,h2,l2,p1,p2,p3,p4,p5,p6⟩:=putT_law (e:=⟨key,r⟩) hfull hh hn2000 ⟨hc,hr,hk0,hk⟩ (valid_checked hvt).goods hs
 have p7:=full_len hfull p4 hn2000 p6
 have HLAW:=Lib.hid (And.intro p1 (And.intro p2 (And.intro p3 (And.intro p4 (And.intro p5 (And.intro p6 p7))))))
 have HC:=Lib.hid (And.intro hc hr)
 clear hc hr hl hm hs p1 p2 p3 p4 p5 p6 p7 hfull hvt
 go_enter Tryd.func48,Tryd.ntmps48
 go_upto_region 1 with (fail)
 rw [←hW0]
 clear hW0
 obtain⟨hc,hr⟩:=HC.out;have b1:¬key<0:=(by omega);have b2:¬1099511627776≤key:=(by omega);have b3:(r.c == 0)=false:=(by simp [hc]);have hd:=And.intro b1 (And.intro b2 b3);clear hd;obtain⟨L,hL⟩:∃L,look t.all key=L:=⟨_,rfl⟩;rw [hL]at HG HM;clear hL
 rw [hf]at HCK
 clear hf
 go_upto_region 10 with (first|(go_at_call 70;(with_reducible refine HCK.out.mono ?_);rintro e w1 ⟨rfl,hb1⟩;have hp1:=HP0.out.later hb1 z0;have HP1:=Lib.hid hp1;have z1:=hp1.size;obtain⟨-,-,q0',q1',r0,r1,r2,r3,r4,r5,c0,c1,cf⟩:=hp1;clear hb1 q0 q1)|(go_at_call 38;(with_reducible refine(check_below (r:=r) (Below.refl _ w1)).mono ?_);rw [hr];rintro e w2 ⟨rfl,hb2⟩;have hp2:=HP1.out.later hb2 z1;have HP2:=Lib.hid hp2;have z2:=hp2.size;clear r0 r1 r2 r3 r4 r5 c0 c1 cf q0' q1';obtain⟨-,-,q0,q1,r0,r1,r2,r3,r4,r5,c0,c1,cf⟩:=hp2;clear hb2)|(go_at_call 50;(with_reducible refine(get_any (key:=key) (HT.out w2 HP2.out.below)).mono ?_);rw [HG.out];rintro e w3 ⟨rfl,hb3⟩;have hp3:=HP2.out.later hb3 z2;have HP3:=Lib.hid hp3;have z3:=hp3.size;clear r0 r1 r2 r3 r4 r5 c0 c1 cf q0 q1;obtain⟨-,-,q0,q1,r0,r1,r2,r3,r4,r5,c0,c1,cf⟩:=hp3;clear hb3))
 obtain⟨W3,hW3⟩:∃W3,W3=w3.alloc (.cells #[.int .i64 L.c, .int .i64 L.s, .int .i64 L.mi, .int .i64 L.ma, .int .i64 L.t, .int .i64 L.l] 42):=⟨_,rfl⟩
 have hb3:Below w3.heap.size w3 W3:=by rw [hW3];exact belowAuto
 have l3:W3.heap[w3.heap.size]?=some (.cells #[.int .i64 L.c, .int .i64 L.s, .int .i64 L.mi, .int .i64 L.ma, .int .i64 L.t, .int .i64 L.l] 42):=by rw [hW3];exact heap_new _ _ rfl
 have zz3:W3.heap.size=w3.heap.size+1:=by rw [hW3];simp
 have HPW:=Lib.hid (HP3.out.later hb3 z3)
 rw [←hW3]
 clear r0 r1 r2 r3 r4 r5 c0 c1 cf q0 q1 hW3 hb3
 obtain⟨-,-,q0,q1,r0,r1,r2,r3,r4,r5,c0,c1,cf⟩:=HPW.out
 obtain⟨m0,m1,m2,m3,m4,m5⟩:W3.cell? ⟨w3.heap.size,0,none⟩=some (.int .i64 L.c)∧W3.cell? ⟨w3.heap.size,1,none⟩=some (.int .i64 L.s)∧W3.cell? ⟨w3.heap.size,2,none⟩=some (.int .i64 L.mi)∧W3.cell? ⟨w3.heap.size,3,none⟩=some (.int .i64 L.ma)∧W3.cell? ⟨w3.heap.size,4,none⟩=some (.int .i64 L.t)∧W3.cell? ⟨w3.heap.size,5,none⟩=some (.int .i64 L.l):=by simp [World.cell?,l3]
 clear l3
 obtain⟨J,hJ⟩:∃J,L.join r=J:=⟨_,rfl⟩
 rw [hJ]at HM
 clear hJ
 go_upto_region 13 with (first|(go_at_call 19;(with_reducible refine(merge_any L r W3).mono ?_);rw [HM.out];rintro e w4 ⟨rfl,hb4⟩))
 obtain⟨W4,hW4⟩:∃W4,W4=w4.alloc (.cells #[.int .i64 J.c, .int .i64 J.s, .int .i64 J.mi, .int .i64 J.ma, .int .i64 J.t, .int .i64 J.l] 42):=⟨_,rfl⟩
 have hb4':Below W3.heap.size W3 W4:=by rw [hW4];exact Below.trans' hb4 ((Below.refl _ _).alloc (Nat.le_refl _) _) hb4.size
 have zz4:W4.heap.size=w4.heap.size+1:=by rw [hW4];simp
 have z4:w.heap.size+3≤W4.heap.size:=by have:=hb4'.size;omega
 have HPX:=Lib.hid (HPW.out.later hb4' (by omega))
 rw [←hW4]
 clear r0 r1 r2 r3 r4 r5 c0 c1 cf q0 q1 hW4 hb4 m0 m1 m2 m3 m4 m5
 obtain⟨-,-,q0,q1,r0,r1,r2,r3,r4,r5,c0,c1,cf⟩:=HPX.out
 have HCP:=Lib.hid (treeCopy_own (HN.out W4 HPX.out.below) ⟨t.root,rfl⟩)
 go_upto_region 16 with ((go_at_call 74;(with_reducible refine HCP.out.mono ?_);rintro e w5 ⟨nv5,rs5,rfl,hb5,hown5⟩;obtain⟨go,gc,rfl⟩:=owns_slice hown5.row))
 obtain⟨W5,hW5⟩:∃W5,W5=w5.alloc (.cells #[.slice go rs5.length gc, .int .i64 t.root, .int .i64 0] 139):=⟨_,rfl⟩
 have hb5':Below W4.heap.size W4 W5:=by rw [hW5];exact Below.trans' hb5 ((Below.refl _ _).alloc (Nat.le_refl _) _) hb5.size
 have HBD:=Lib.hid (NodesOwn.bd (t:=t) (hown5.mono (show W4.heap.size≤W4.heap.size+2 by omega)) hb5.size hW5)
 have HP5:=Lib.hid (HPX.out.later hb5' (by omega))
 have zz5:W5.heap.size=w5.heap.size+1:=by rw [hW5];simp
 have HB5:=Lib.hid hb5'
 have s5:=hb5.size
 rw [←hW5]
 clear r0 r1 r2 r3 r4 r5 c0 c1 cf q0 q1 hW5 hb5 hb5' hown5
 obtain⟨-,-,q0,q1,r0,r1,r2,r3,r4,r5,c0,c1,cf⟩:=HP5.out
 have HPUT:=Lib.hid (put_any 13 HBD.out HLAW.out.1)
 go_upto_region 17 with ((go_at_call 75;(with_reducible refine HPUT.out.mono ?_);rintro e w6 ⟨rfl,hp6⟩))
 obtain⟨nv6,rs6,hB6,hS6⟩:=hp6
 have hb6:Below W4.heap.size W4 w6:=Turn.below hS6.turn HB5.out (by omega) fun i hi=>(HBD.out.lt i hi).1
 have cb:w6.cell? ⟨w5.heap.size,2,none⟩=some (.int .i64 0):=by simp [World.cell?,hB6.box]
 have HB6:=Lib.hid (And.intro hB6 hb6)
 clear r0 r1 r2 r3 r4 r5 c0 c1 cf q0 q1 hB6 hS6 hb6
 go_upto_if 86 with (fail)
 clear cb
 go_cut [] (fun wx=>∃nv7 rs7,Hid (Bd W4.heap.size wx w5.heap.size nv7 rs7 t2∧Below W4.heap.size W4 wx))
 case first=>
  obtain⟨-,hroot,ht2,-⟩:=HLAW.out
  by_cases hm0:0≤more
  ·rw [if_pos hm0]at ht2
   subst ht2
   obtain⟨ao6,c6,hv6⟩:=owns_slice HB6.out.1.row
   subst hv6
   obtain⟨c0,cr⟩:w6.cell? ⟨w5.heap.size,0,none⟩=some (.slice ao6 rs6.length c6)∧w6.cell? ⟨w5.heap.size,1,none⟩=some (.int .i64 t.root):=by rw [←hroot];simp [World.cell?,HB6.out.1.box]
   have hbl:=(HB6.out.1.lt _ (.inl rfl)).2
   have hnbb:=HB6.out.1.nbb
   have hbox:=HB6.out.1.box
   have HSW:=Lib.hid fun(W:World) (hT:Turn (fun b=>(Value.slice ao6 rs6.length c6).ownBlock=some b) w6 W)=>(⟨(hT.cell hbl hnbb 0).trans c0,(hT.cell hbl hnbb 1).trans cr⟩:W.cell? ⟨w5.heap.size,0,none⟩=some (.slice ao6 rs6.length c6)∧W.cell? ⟨w5.heap.size,1,none⟩=some (.int .i64 t.root))
   have HFZ:=Lib.hid fun(W:World) (hT:Turn (fun b=>(Value.slice ao6 rs6.length c6).ownBlock=some b) w6 W)=>(fun o=>(hT.frozen hbl hnbb o).trans (by simp [World.frozen?,hbox]):∀o,W.frozen? ⟨w5.heap.size,o,none⟩=false)
   have hlen6:rs6.length=t1.nodes.length:=HB6.out.1.len
   have hlt1:t1.nodes.length≤20000:=by have:=HLAW.out.2.2.2.2.2.2;simp [growT]at this;omega
   obtain⟨i0,z9,hi0,hz0,hz1',hz2',hz3'⟩:=iNode_some
   have T0:Turn (fun b=>(Value.slice ao6 rs6.length c6).ownBlock=some b) w6 w6.drew:=(Turn.refl _ _).drew
   have HLN:=Lib.hid (And.intro hlen6 hlt1)
   have hlr:rs6.length≤20000:=by omega
   have HRT:=Lib.hid hroot
   clear c0 cr hnbb hbox hlen6 hlt1 hroot
   go_upto_region 20 with (fail)
   refine wp_region_fork (Sch.of [(0,1),(1,1),(2,1),(3,1),(4,1),(5,0),(6,1),(8,1),(9,1),(10,1),(11,1),(12,0),(13,1)] (.fork 7 14 (Sch.of [(14,2),(15,1),(16,2),(17,2),(18,1),(19,1),(20,1),(21,3)] .nil) (Sch.of [(7,2),(15,1),(16,2),(17,2),(18,1),(19,1),(20,1),(21,3)] .nil))) 21
    (fun W=>W.cell? ⟨w5.heap.size,0,none⟩=some (.slice ao6 rs6.length c6)∧W.cell? ⟨w5.heap.size,1,none⟩=some (.int .i64 t.root)) (by kernel_rfl) (by kernel_rfl) (HSW.out _ T0) ?_
   simp only [Sch.of]
   (repeat (first|((refine fork_pure (v:=?_) rfl rfl (fun W=>?_) ?_);rotate_left;focus (go_simp;(try with_reducible rfl);done))|((refine fork_read (v:=?_) rfl rfl (fun W hW=>?_) ?_);rotate_left;focus ((try dsimp only at hW);go_simp;(try with_reducible rfl);done))))
   refine fork_both rfl rfl rfl rfl (fun K hK=>?_) (fun K hK=>?_)
   ·go_simp
    obtain⟨W7,hW7⟩:∃W7,W7=(w6.alloc (.cells #[.int .i64 key'] 3)).drew:=⟨_,rfl⟩
    have hb7:Below w6.heap.size w6 W7:=by rw [hW7];exact belowAuto
    have k7:W7.heap[w6.heap.size]?=some (.cells #[.int .i64 key'] 3):=by rw [hW7];exact heap_new _ _ rfl
    have hz7:W7.heap.size=w6.heap.size+1:=by rw [hW7];simp
    rw [←hW7]
    have T7:Turn (fun b=>(Value.slice ao6 rs6.length c6).ownBlock=some b) w6 W7:=Turn.of hb7 (Nat.le_refl _)
    refine hK _ _ (HSW.out _ T7) ?_
    clear hK K hW7 T0
    (repeat (first|((refine fork_pure (v:=?_) rfl rfl (fun W=>?_) ?_);rotate_left;focus (go_simp;(try with_reducible rfl);done))|((refine fork_read (v:=?_) rfl rfl (fun W hW=>?_) ?_);rotate_left;focus ((try dsimp only at hW);go_simp;(try with_reducible rfl);done))))
    refine fork_does rfl rfl (fun K hK=>?_)
    go_simp
    obtain⟨W8,hW8⟩:∃W8,W8=W7.alloc (.cells #[.int .i64 t.root, .int .i64 more] 3):=⟨_,rfl⟩
    have hb8:Below W7.heap.size W7 W8:=by rw [hW8];exact belowAuto
    have k8:W8.heap[W7.heap.size]?=some (.cells #[.int .i64 t.root, .int .i64 more] 3):=by rw [hW8];exact heap_new _ _ rfl
    have hz8:W8.heap.size=w6.heap.size+2:=by rw [hW8];simp [hz7]
    have k78:=(hb8.block w6.heap.size (by omega)).trans k7
    rw [hz7]at k8
    rw [←hW8]
    have B8:Below w6.heap.size w6 W8:=Below.trans' hb7 hb8 hb7.size
    have T8:Turn (fun b=>(Value.slice ao6 rs6.length c6).ownBlock=some b) w6 W8:=Turn.of B8 (Nat.le_refl _)
    refine hK _ _ (HSW.out _ T8) ?_
    clear hK K hW8 T7 hb7 hb8 k7 hz7
    (repeat (first|((refine fork_pure (v:=?_) rfl rfl (fun W=>?_) ?_);rotate_left;focus (go_simp;(try with_reducible rfl);done))|((refine fork_read (v:=?_) rfl rfl (fun W hW=>?_) ?_);rotate_left;focus ((try dsimp only at hW);go_simp;(try with_reducible rfl);done))))
    refine fork_does rfl rfl (fun K hK=>?_)
    go_simp
    obtain⟨W9,hW9⟩:∃W9,W9=W8.alloc (.cells #[.bool false, .slice none 0 0, .slice (some ⟨w6.heap.size,0,none⟩) 1 1, .slice (some ⟨w6.heap.size+1,0,none⟩) 2 2, .slice none 0 0] 133):=⟨_,rfl⟩
    have hb9:Below W8.heap.size W8 W9:=by rw [hW9];exact belowAuto
    have k9:W9.heap[W8.heap.size]?=some (.cells #[.bool false, .slice none 0 0, .slice (some ⟨w6.heap.size,0,none⟩) 1 1, .slice (some ⟨w6.heap.size+1,0,none⟩) 2 2, .slice none 0 0] 133):=by rw [hW9];exact heap_new _ _ rfl
    have hz9:W9.heap.size=w6.heap.size+3:=by rw [hW9];simp [hz8]
    rw [hz8]at k9
    rw [←hW9]
    have B9:Below w6.heap.size w6 W9:=Below.trans' B8 hb9 B8.size
    have T9:Turn (fun b=>(Value.slice ao6 rs6.length c6).ownBlock=some b) w6 W9:=Turn.of B9 (Nat.le_refl _)
    have k89:=(hb9.block (w6.heap.size+1) (by omega)).trans k8
    have k79:=(hb9.block w6.heap.size (by omega)).trans k78
    refine hK _ _ (HSW.out _ T9) ?_
    clear hK K hW9 T8 hb9 k8 k78 B8
    (repeat (first|((refine fork_pure (v:=?_) rfl rfl (fun W=>?_) ?_);rotate_left;focus (go_simp;(try with_reducible rfl);done))|((refine fork_read (v:=?_) rfl rfl (fun W hW=>?_) ?_);rotate_left;focus ((try dsimp only at hW);go_simp;(try with_reducible rfl);done))))
    have hrow9:=(HB6.out.1.below B9 (Nat.le_refl _)).row
    have hM9:W4.heap.size≤w6.heap.size:=by have:=HB6.out.2.size;omega
    refine fork_does rfl rfl (fun K hK=>?_)
    refine wp_append_lies _ (.tmp 92) (.tmp 103) 30 rfl W4.heap.size 133 i0 z9 5 104 Tryd.underlying30 hi0 hz0 hz1' hz2' hz3' (by decide) _ rs6.length _ rfl hrow9 ⟨w6.heap.size+2,0,none⟩ 1 1 (enRaw ⟨false, .slice none 0 0, .slice (some ⟨w6.heap.size,0,none⟩) 1 1, .slice (some ⟨w6.heap.size+1,0,none⟩) 2 2, .slice none 0 0⟩) rfl rfl (World.news_of_block k9) ?hone (by decide) (by unfold maxLen;omega) (by omega) (by omega) W9.heap.size rfl ?_
    case hone=>
     intro u hu
     simp only [enRaw,List.mem_cons,List.not_mem_nil,or_false]at hu
     rcases hu with rfl|rfl|rfl|rfl|rfl <;> rfl
    intro g cap' w10 hrow10 hgr10 hg10 hlt10
    have T10:Turn (fun b=>(Value.slice ao6 rs6.length c6).ownBlock=some b) w6 w10:=T9.trans ⟨hgr10.os,hgr10.tape,hgr10.output,hgr10.size,fun b hb hne=>hgr10.block b hb fun e=>hne e.symm⟩
    refine hK _ _ (HSW.out _ T10) ?_
    clear hK K
    have hz10:=hgr10.size
    have hin:∀b,w6.heap.size≤b→b<w6.heap.size+3→w10.heap[b]?=W9.heap[b]?:=fun b h1 h2=>hgr10.block b (by omega) (fun e=>by have:=(HB6.out.1.row.lt b e.symm).2;omega)
    have HPUSH:=Lib.hid (HB6.out.1.push (w1:=w10) (nv':= .slice (some ⟨g,0,none⟩) (rs6.length+1) cap') (r:=⟨false, .slice none 0 0, .slice (some ⟨w6.heap.size,0,none⟩) 1 1, .slice (some ⟨w6.heap.size+1,0,none⟩) 2 2, .slice none 0 0⟩) (x:=⟨false,[],[key'],[t.root,more],[]⟩) T10 hrow10 (fun b hb=>by
      have hb:g=b:=Option.some.inj hb
      subst hb
      rcases hg10 with e|e
      ·left;exact e
      ·right;omega) (by
      refine⟨NdOwn.of rfl (nil_own _ _ _ _) (made_row (us:=[.int .i64 key']) (by omega) ((hin _ (by omega) (by omega)).trans k79) rfl (by decide)) (made_row (us:=[.int .i64 t.root, .int .i64 more]) (by omega) ((hin _ (by omega) (by omega)).trans k89) rfl (by decide)) (nil_own _ _ _ _),fun f b hb=>?_,fun f h b hb hb'=>?_⟩
      ·rcases Nat.lt_or_ge f 4 with h4|h4
       ·rcases lt4 h4 with rfl|rfl|rfl|rfl
        ·cases hb
        ·have hb:w6.heap.size=b:=Option.some.inj hb
         omega
        ·have hb:w6.heap.size+1=b:=Option.some.inj hb
         omega
        ·cases hb
       ·rw [Raw.fld_big _ h4]at hb;cases hb
      ·rcases Nat.lt_or_ge f 4 with h4|h4
       ·rcases Nat.lt_or_ge h 4 with g4|g4
        ·rcases lt4 h4 with rfl|rfl|rfl|rfl <;> rcases lt4 g4 with rfl|rfl|rfl|rfl <;> first
          |rfl
          |(cases hb;done)
          |(cases hb';done)
          |(have hb:w6.heap.size=b:=Option.some.inj hb
            have hb':w6.heap.size+1=b:=Option.some.inj hb'
            omega)
          |(have hb:w6.heap.size+1=b:=Option.some.inj hb
            have hb':w6.heap.size=b:=Option.some.inj hb'
            omega)
        ·rw [Raw.fld_big _ g4]at hb';cases hb'
       ·rw [Raw.fld_big _ h4]at hb;cases hb) (fun f b hb e=>by
      have e:g=b:=Option.some.inj e
      have hgo:∀c,w6.heap.size≤c→c<w6.heap.size+3→g≠c:=fun c h1 h2 e=>by
       rcases hg10 with e'|e'
       ·have:=(HB6.out.1.row.lt g e').2;omega
       ·omega
      rcases Nat.lt_or_ge f 4 with h4|h4
      ·rcases lt4 h4 with rfl|rfl|rfl|rfl
       ·cases hb
       ·have hb:w6.heap.size=b:=Option.some.inj hb
        exact hgo _ (by omega) (by omega) (e.trans hb.symm)
       ·have hb:w6.heap.size+1=b:=Option.some.inj hb
        exact hgo _ (by omega) (by omega) (e.trans hb.symm)
       ·cases hb
      ·rw [Raw.fld_big _ h4]at hb;cases hb))
    have d1:w10.frozen? ⟨w5.heap.size,0,none⟩=false:=HFZ.out _ T10 0
    obtain⟨d0,dr⟩:=HSW.out _ T10
    clear T9 T10 hrow9 hrow10 hgr10 hg10 hlt10 hin k79 k89 k9 B9
    (repeat (first|((refine fork_pure (v:=?_) rfl rfl (fun W=>?_) ?_);rotate_left;focus (go_simp;(try with_reducible rfl);done))|((refine fork_read (v:=?_) rfl rfl (fun W hW=>?_) ?_);rotate_left;focus ((try dsimp only at hW);go_simp;(try with_reducible rfl);done))))
    refine fork_last rfl rfl (fun K hK=>?_)
    go_simp
    refine hK _ _ ?_
    clear hK K
    refine fork_end ?_
    have e0:(w10.setCell ⟨w5.heap.size,0,none⟩ (.slice (some ⟨g,0,none⟩) (rs6.length+1) cap')).cell? ⟨w5.heap.size,0,none⟩=some (.slice (some ⟨g,0,none⟩) (rs6.length+1) cap'):=cell_setSame d0
    have e1:(w10.setCell ⟨w5.heap.size,0,none⟩ (.slice (some ⟨g,0,none⟩) (rs6.length+1) cap')).cell? ⟨w5.heap.size,1,none⟩=some (.int .i64 t.root):=cell_setOff (by decide) dr
    have ef:∀o,(w10.setCell ⟨w5.heap.size,0,none⟩ (.slice (some ⟨g,0,none⟩) (rs6.length+1) cap')).frozen? ⟨w5.heap.size,o,none⟩=false:=fun o=>by
     have hb:=HPUSH.out.1.box
     simp [World.frozen?,hb]
    generalize w10.setCell ⟨w5.heap.size,0,none⟩ (.slice (some ⟨g,0,none⟩) (rs6.length+1) cap')=WA at HPUSH e0 e1 ef ⊢
    clear d0 dr d1
    have hw0:IntKind.i64.wrap ((rs6.length:Int)+1-1)=(rs6.length:Int):=by rw [IntWalk.i64_in _ (by omega)];omega
    go_wp2_with fail
    go_meet
    have hG:growT t1 more key'={ addN t1 ⟨false,[],[key'],[t.root,more],[]⟩with root:=(rs6.length:Int) }:=by unfold growT;rw [HRT.out,←HLN.out.1];rfl
    have hA:=HPUSH.out.1.root (rs6.length:Int)
    rw [←hG]at hA
    have hX:Below W4.heap.size W4 WA:=Turn.below HPUSH.out.2.turn HB6.out.2 (by have:=HB6.out.2.size;omega) fun i hi=>(HB6.out.1.lt i hi).1
    exact⟨_,_,Lib.hid (And.intro hA (hX.setCell (by show W4.heap.size≤w5.heap.size;omega) _))⟩
   ·go_simp
    obtain⟨W7,hW7⟩:∃W7,W7=(w6.alloc (.cells #[.int .i64 t.root, .int .i64 more] 3)).drew:=⟨_,rfl⟩
    have hb7:Below w6.heap.size w6 W7:=by rw [hW7];exact belowAuto
    have k7:W7.heap[w6.heap.size]?=some (.cells #[.int .i64 t.root, .int .i64 more] 3):=by rw [hW7];exact heap_new _ _ rfl
    have hz7:W7.heap.size=w6.heap.size+1:=by rw [hW7];simp
    rw [←hW7]
    have T7:Turn (fun b=>(Value.slice ao6 rs6.length c6).ownBlock=some b) w6 W7:=Turn.of hb7 (Nat.le_refl _)
    refine hK _ _ (HSW.out _ T7) ?_
    clear hK K hW7 T0
    (repeat (first|((refine fork_pure (v:=?_) rfl rfl (fun W=>?_) ?_);rotate_left;focus (go_simp;(try with_reducible rfl);done))|((refine fork_read (v:=?_) rfl rfl (fun W hW=>?_) ?_);rotate_left;focus ((try dsimp only at hW);go_simp;(try with_reducible rfl);done))))
    refine fork_does rfl rfl (fun K hK=>?_)
    go_simp
    obtain⟨W8,hW8⟩:∃W8,W8=W7.alloc (.cells #[.int .i64 key'] 3):=⟨_,rfl⟩
    have hb8:Below W7.heap.size W7 W8:=by rw [hW8];exact belowAuto
    have k8:W8.heap[W7.heap.size]?=some (.cells #[.int .i64 key'] 3):=by rw [hW8];exact heap_new _ _ rfl
    have hz8:W8.heap.size=w6.heap.size+2:=by rw [hW8];simp [hz7]
    have k78:=(hb8.block w6.heap.size (by omega)).trans k7
    rw [hz7]at k8
    rw [←hW8]
    have B8:Below w6.heap.size w6 W8:=Below.trans' hb7 hb8 hb7.size
    have T8:Turn (fun b=>(Value.slice ao6 rs6.length c6).ownBlock=some b) w6 W8:=Turn.of B8 (Nat.le_refl _)
    refine hK _ _ (HSW.out _ T8) ?_
    clear hK K hW8 T7 hb7 hb8 k7 hz7
    (repeat (first|((refine fork_pure (v:=?_) rfl rfl (fun W=>?_) ?_);rotate_left;focus (go_simp;(try with_reducible rfl);done))|((refine fork_read (v:=?_) rfl rfl (fun W hW=>?_) ?_);rotate_left;focus ((try dsimp only at hW);go_simp;(try with_reducible rfl);done))))
    refine fork_does rfl rfl (fun K hK=>?_)
    go_simp
    obtain⟨W9,hW9⟩:∃W9,W9=W8.alloc (.cells #[.bool false, .slice none 0 0, .slice (some ⟨w6.heap.size+1,0,none⟩) 1 1, .slice (some ⟨w6.heap.size,0,none⟩) 2 2, .slice none 0 0] 133):=⟨_,rfl⟩
    have hb9:Below W8.heap.size W8 W9:=by rw [hW9];exact belowAuto
    have k9:W9.heap[W8.heap.size]?=some (.cells #[.bool false, .slice none 0 0, .slice (some ⟨w6.heap.size+1,0,none⟩) 1 1, .slice (some ⟨w6.heap.size,0,none⟩) 2 2, .slice none 0 0] 133):=by rw [hW9];exact heap_new _ _ rfl
    have hz9:W9.heap.size=w6.heap.size+3:=by rw [hW9];simp [hz8]
    rw [hz8]at k9
    rw [←hW9]
    have B9:Below w6.heap.size w6 W9:=Below.trans' B8 hb9 B8.size
    have T9:Turn (fun b=>(Value.slice ao6 rs6.length c6).ownBlock=some b) w6 W9:=Turn.of B9 (Nat.le_refl _)
    have k89:=(hb9.block (w6.heap.size+1) (by omega)).trans k8
    have k79:=(hb9.block w6.heap.size (by omega)).trans k78
    refine hK _ _ (HSW.out _ T9) ?_
    clear hK K hW9 T8 hb9 k8 k78 B8
    (repeat (first|((refine fork_pure (v:=?_) rfl rfl (fun W=>?_) ?_);rotate_left;focus (go_simp;(try with_reducible rfl);done))|((refine fork_read (v:=?_) rfl rfl (fun W hW=>?_) ?_);rotate_left;focus ((try dsimp only at hW);go_simp;(try with_reducible rfl);done))))
    have hrow9:=(HB6.out.1.below B9 (Nat.le_refl _)).row
    have hM9:W4.heap.size≤w6.heap.size:=by have:=HB6.out.2.size;omega
    refine fork_does rfl rfl (fun K hK=>?_)
    refine wp_append_lies _ (.tmp 92) (.tmp 103) 30 rfl W4.heap.size 133 i0 z9 5 104 Tryd.underlying30 hi0 hz0 hz1' hz2' hz3' (by decide) _ rs6.length _ rfl hrow9 ⟨w6.heap.size+2,0,none⟩ 1 1 (enRaw ⟨false, .slice none 0 0, .slice (some ⟨w6.heap.size+1,0,none⟩) 1 1, .slice (some ⟨w6.heap.size,0,none⟩) 2 2, .slice none 0 0⟩) rfl rfl (World.news_of_block k9) ?hone (by decide) (by unfold maxLen;omega) (by omega) (by omega) W9.heap.size rfl ?_
    case hone=>
     intro u hu
     simp only [enRaw,List.mem_cons,List.not_mem_nil,or_false]at hu
     rcases hu with rfl|rfl|rfl|rfl|rfl <;> rfl
    intro g cap' w10 hrow10 hgr10 hg10 hlt10
    have T10:Turn (fun b=>(Value.slice ao6 rs6.length c6).ownBlock=some b) w6 w10:=T9.trans ⟨hgr10.os,hgr10.tape,hgr10.output,hgr10.size,fun b hb hne=>hgr10.block b hb fun e=>hne e.symm⟩
    refine hK _ _ (HSW.out _ T10) ?_
    clear hK K
    have hz10:=hgr10.size
    have hin:∀b,w6.heap.size≤b→b<w6.heap.size+3→w10.heap[b]?=W9.heap[b]?:=fun b h1 h2=>hgr10.block b (by omega) (fun e=>by have:=(HB6.out.1.row.lt b e.symm).2;omega)
    have HPUSH:=Lib.hid (HB6.out.1.push (w1:=w10) (nv':= .slice (some ⟨g,0,none⟩) (rs6.length+1) cap') (r:=⟨false, .slice none 0 0, .slice (some ⟨w6.heap.size+1,0,none⟩) 1 1, .slice (some ⟨w6.heap.size,0,none⟩) 2 2, .slice none 0 0⟩) (x:=⟨false,[],[key'],[t.root,more],[]⟩) T10 hrow10 (fun b hb=>by
      have hb:g=b:=Option.some.inj hb
      subst hb
      rcases hg10 with e|e
      ·left;exact e
      ·right;omega) (by
      refine⟨NdOwn.of rfl (nil_own _ _ _ _) (made_row (us:=[.int .i64 key']) (by omega) ((hin _ (by omega) (by omega)).trans k89) rfl (by decide)) (made_row (us:=[.int .i64 t.root, .int .i64 more]) (by omega) ((hin _ (by omega) (by omega)).trans k79) rfl (by decide)) (nil_own _ _ _ _),fun f b hb=>?_,fun f h b hb hb'=>?_⟩
      ·rcases Nat.lt_or_ge f 4 with h4|h4
       ·rcases lt4 h4 with rfl|rfl|rfl|rfl
        ·cases hb
        ·have hb:w6.heap.size+1=b:=Option.some.inj hb
         omega
        ·have hb:w6.heap.size=b:=Option.some.inj hb
         omega
        ·cases hb
       ·rw [Raw.fld_big _ h4]at hb;cases hb
      ·rcases Nat.lt_or_ge f 4 with h4|h4
       ·rcases Nat.lt_or_ge h 4 with g4|g4
        ·rcases lt4 h4 with rfl|rfl|rfl|rfl <;> rcases lt4 g4 with rfl|rfl|rfl|rfl <;> first
          |rfl
          |(cases hb;done)
          |(cases hb';done)
          |(have hb:w6.heap.size+1=b:=Option.some.inj hb
            have hb':w6.heap.size=b:=Option.some.inj hb'
            omega)
          |(have hb:w6.heap.size=b:=Option.some.inj hb
            have hb':w6.heap.size+1=b:=Option.some.inj hb'
            omega)
        ·rw [Raw.fld_big _ g4]at hb';cases hb'
       ·rw [Raw.fld_big _ h4]at hb;cases hb) (fun f b hb e=>by
      have e:g=b:=Option.some.inj e
      have hgo:∀c,w6.heap.size≤c→c<w6.heap.size+3→g≠c:=fun c h1 h2 e=>by
       rcases hg10 with e'|e'
       ·have:=(HB6.out.1.row.lt g e').2;omega
       ·omega
      rcases Nat.lt_or_ge f 4 with h4|h4
      ·rcases lt4 h4 with rfl|rfl|rfl|rfl
       ·cases hb
       ·have hb:w6.heap.size+1=b:=Option.some.inj hb
        exact hgo _ (by omega) (by omega) (e.trans hb.symm)
       ·have hb:w6.heap.size=b:=Option.some.inj hb
        exact hgo _ (by omega) (by omega) (e.trans hb.symm)
       ·cases hb
      ·rw [Raw.fld_big _ h4]at hb;cases hb))
    have d1:w10.frozen? ⟨w5.heap.size,0,none⟩=false:=HFZ.out _ T10 0
    obtain⟨d0,dr⟩:=HSW.out _ T10
    clear T9 T10 hrow9 hrow10 hgr10 hg10 hlt10 hin k79 k89 k9 B9
    (repeat (first|((refine fork_pure (v:=?_) rfl rfl (fun W=>?_) ?_);rotate_left;focus (go_simp;(try with_reducible rfl);done))|((refine fork_read (v:=?_) rfl rfl (fun W hW=>?_) ?_);rotate_left;focus ((try dsimp only at hW);go_simp;(try with_reducible rfl);done))))
    refine fork_last rfl rfl (fun K hK=>?_)
    go_simp
    refine hK _ _ ?_
    clear hK K
    refine fork_end ?_
    have e0:(w10.setCell ⟨w5.heap.size,0,none⟩ (.slice (some ⟨g,0,none⟩) (rs6.length+1) cap')).cell? ⟨w5.heap.size,0,none⟩=some (.slice (some ⟨g,0,none⟩) (rs6.length+1) cap'):=cell_setSame d0
    have e1:(w10.setCell ⟨w5.heap.size,0,none⟩ (.slice (some ⟨g,0,none⟩) (rs6.length+1) cap')).cell? ⟨w5.heap.size,1,none⟩=some (.int .i64 t.root):=cell_setOff (by decide) dr
    have ef:∀o,(w10.setCell ⟨w5.heap.size,0,none⟩ (.slice (some ⟨g,0,none⟩) (rs6.length+1) cap')).frozen? ⟨w5.heap.size,o,none⟩=false:=fun o=>by
     have hb:=HPUSH.out.1.box
     simp [World.frozen?,hb]
    generalize w10.setCell ⟨w5.heap.size,0,none⟩ (.slice (some ⟨g,0,none⟩) (rs6.length+1) cap')=WA at HPUSH e0 e1 ef ⊢
    clear d0 dr d1
    have hw0:IntKind.i64.wrap ((rs6.length:Int)+1-1)=(rs6.length:Int):=by rw [IntWalk.i64_in _ (by omega)];omega
    go_wp2_with fail
    go_meet
    have hG:growT t1 more key'={ addN t1 ⟨false,[],[key'],[t.root,more],[]⟩with root:=(rs6.length:Int) }:=by unfold growT;rw [HRT.out,←HLN.out.1];rfl
    have hA:=HPUSH.out.1.root (rs6.length:Int)
    rw [←hG]at hA
    have hX:Below W4.heap.size W4 WA:=Turn.below HPUSH.out.2.turn HB6.out.2 (by have:=HB6.out.2.size;omega) fun i hi=>(HB6.out.1.lt i hi).1
    exact⟨_,_,Lib.hid (And.intro hA (hX.setCell (by show W4.heap.size≤w5.heap.size;omega) _))⟩
  ·rw [if_neg hm0]at ht2
   subst ht2
   go_wp2_with fail
   go_meet
   exact⟨nv6,rs6,HB6⟩
 case rest=>
  obtain⟨nv7,rs7,HB7⟩:=hcut
  obtain⟨-,-,-,hfull2,hev2,hwt2,hlen2⟩:=HLAW.out
  obtain⟨ao7,c7,hv7⟩:=owns_slice HB7.out.1.row
  subst hv7
  have HP7:=Lib.hid (HPX.out.later HB7.out.2 (by omega))
  have HCK2:=Lib.hid (treeCheck_any (HB7.out.1.treeAt hfull2 (by omega)))
  obtain⟨d0,d1⟩:wc.cell? ⟨w5.heap.size,0,none⟩=some (.slice ao7 rs7.length c7)∧wc.cell? ⟨w5.heap.size,1,none⟩=some (.int .i64 t2.root):=by simp [World.cell?,HB7.out.1.box]
  have hbbl:=(HB7.out.1.lt _ (.inl rfl)).2
  have HRS:=Lib.hid (show ∀x wf,((treeFault t2=0∧∃v2,x=Ending.returned (.tuple #[v2, .int .i64 0])∧∀w'',Keep w.heap.size wf w''→TreeAt w'' v2 t2)∨(treeFault t2≠0∧x = .returned (.tuple #[zeroT, .int .i64 1])))→PutOkP w.heap.size t ⟨key,r⟩ x wf from fun x wf hx=>⟨t2,h2,l2,hfull2,hev2,hwt2,hx⟩)
  have HTR:=Lib.hid (show ∀wf,(∀b,W4.heap.size≤b→b<wc.heap.size→wf.heap[b]?=wc.heap[b]?)→TreeAt wf (.agg #[.slice ao7 rs7.length c7, .int .i64 t2.root]) t2 from fun wf hw=>(HB7.out.1.world fun b hb=>hw b (HB7.out.1.lt b hb).1 (HB7.out.1.lt b hb).2).treeAt hfull2 (by omega))
  clear hfull2 hev2 hwt2
  by_cases hf2:treeFault t2=0
  ·rw [hf2]at HCK2
   have HF2:=Lib.hid hf2
   clear hf2
   go_wp2_with ((go_at_call 70;(with_reducible refine HCK2.out.mono ?_);rintro e w8 ⟨rfl,hb8⟩;have e0:=(hb8.cell (p:=⟨w5.heap.size,0,none⟩) hbbl).trans d0;have e1:=(hb8.cell (p:=⟨w5.heap.size,1,none⟩) hbbl).trans d1;have HP8:=Lib.hid (HP7.out.later hb8 HP7.out.size);have HB8:=Lib.hid hb8;obtain⟨-,-,-,-,-,-,-,-,-,-,c0,c1,cf⟩:=HP8.out;clear hb8 d0 d1))
   have hbw:=HP8.out.below
   exact bodyPost_ret (v:= .tuple #[.agg #[.slice ao7 rs7.length c7, .int .i64 t2.root], .int .i64 0]) (by simp [results,Tryd.results48,go_sem, *]) rfl ⟨belowAuto,HRS.out _ _ (.inl ⟨HF2.out,_,rfl,fun w'' hk=>HTR.out _ fun b hb hlt=>(hk.block b (by omega) (by have:=HB8.out.size;simp only [heap_setCell_size];omega)).trans (((heap_setCell_other _ ⟨w.heap.size+2,_,none⟩ b _ (by show b≠w.heap.size+2;omega)).trans (heap_setCell_other _ ⟨w.heap.size+2,_,none⟩ b _ (by show b≠w.heap.size+2;omega))).trans (HB8.out.block b hlt))⟩)⟩
  ·have HF2:=Lib.hid hf2
   have d2:(treeFault t2 != 0)=true:=by simp [hf2]
   obtain⟨F,hF⟩:∃F,treeFault t2=F:=⟨_,rfl⟩
   rw [hF]at HCK2 d2
   clear hf2 hF
   go_wp2_with ((go_at_call 70;(with_reducible refine HCK2.out.mono ?_);rintro e w8 ⟨rfl,hb8⟩;have e0:=(hb8.cell (p:=⟨w5.heap.size,0,none⟩) hbbl).trans d0;have e1:=(hb8.cell (p:=⟨w5.heap.size,1,none⟩) hbbl).trans d1;have HP8:=Lib.hid (HP7.out.later hb8 HP7.out.size);obtain⟨-,-,-,-,-,-,-,-,-,-,c0,c1,cf⟩:=HP8.out;clear hb8 d0 d1))
   have hbw:=HP8.out.below
   exact bodyPost_ret (v:= .tuple #[zeroT, .int .i64 1]) (by simp [results,Tryd.results48,go_sem, *]) rfl ⟨belowAuto,HRS.out _ _ (.inr ⟨HF2.out,rfl⟩)⟩
theorem treePut_any {v:Value} {t:Tr} {key:Int} {r:Roll} {w:World} (h:TreeAt w v t) (hs:putE t key r=0→Small (⟨key,r⟩::t.all)) :
  Calls Tryd.prog 48 #[v, .int .i64 key, .agg #[.int .i64 r.c, .int .i64 r.s, .int .i64 r.mi, .int .i64 r.ma, .int .i64 r.t, .int .i64 r.l]] w fun x w'=>Below w.heap.size w w' ∧
   ((putE t key r≠0∧x = .returned (.tuple #[zeroT, .int .i64 (putE t key r)]))∨(putE t key r=0∧PutOkP w.heap.size t ⟨key,r⟩ x w')):=by
 obtain⟨nv,rfl,hn⟩:=h
 obtain⟨⟨ao,cap,rfl⟩,-⟩:=hn.len
 have er:∀{k:Int},putE t key r=k→k≠0→Calls Tryd.prog 48 #[.agg #[.slice ao t.nodes.length cap, .int .i64 t.root], .int .i64 key, .agg #[.int .i64 r.c, .int .i64 r.s, .int .i64 r.mi, .int .i64 r.ma, .int .i64 r.t, .int .i64 r.l]] w (fun x w'=>Below w.heap.size w w'∧x = .returned (.tuple #[zeroT, .int .i64 k])) →
   Calls Tryd.prog 48 #[.agg #[.slice ao t.nodes.length cap, .int .i64 t.root], .int .i64 key, .agg #[.int .i64 r.c, .int .i64 r.s, .int .i64 r.mi, .int .i64 r.ma, .int .i64 r.t, .int .i64 r.l]] w (fun x w'=>Below w.heap.size w w'∧((putE t key r≠0∧x = .returned (.tuple #[zeroT, .int .i64 (putE t key r)]))∨(putE t key r=0∧PutOkP w.heap.size t ⟨key,r⟩ x w'))):=fun {k} e hk hc=>by
  subst e
  exact hc.mono fun x w' ⟨h1,h2⟩=>⟨h1, .inl ⟨hk,h2⟩⟩
 by_cases hf:treeFault t=0
 ·by_cases hk0:0≤key
  ·by_cases hk:key<1099511627776
   ·by_cases hc:r.c=0
    ·exact er (by unfold putE;rw [if_neg (by simp [hf]),if_pos (by omega)]) (by decide) (put_none hn hf hk0 hk hc)
    ·by_cases hr:rollCheck r=0
     ·by_cases hm:(look t.all key).c+r.c≤1073741824
      ·have hE:putE t key r=0:=by unfold putE;rw [if_neg (by simp [hf]),if_neg (by omega),if_neg (by simp [hr]),if_pos hm]
       exact(put_good hn hf hk0 hk hc hr hm (hs hE)).mono fun x w' ⟨h1,h2⟩=>⟨h1, .inr ⟨hE,h2⟩⟩
      ·have hE:putE t key r=1:=by unfold putE;rw [if_neg (by simp [hf]),if_neg (by omega),if_neg (by simp [hr]),if_neg hm]
       by_cases hl:(look t.all key).c≤1073741824
       ·exact er hE (by decide) (put_merge hn hf hk0 hk hc hr hl (by omega))
       ·exact er hE (by decide) (put_get hn hf hk0 hk hc hr (by omega))
     ·exact er (by unfold putE;rw [if_neg (by simp [hf]),if_neg (by omega),if_pos hr]) hr (put_roll hn hf hk0 hk hc hr)
   ·exact er (by unfold putE;rw [if_neg (by simp [hf]),if_pos (by omega)]) (by decide) (put_high hn hf hk0 (by omega))
  ·exact er (by unfold putE;rw [if_neg (by simp [hf]),if_pos (by omega)]) (by decide) (put_low hn hf (by omega))
 ·exact er (by unfold putE;rw [if_pos hf]) hf (put_fault hn hf)
end Go.Proofs.YtnjfkcimboidnaaDoor

/- What tree.Put leaves, in one form. -/
namespace Go.Proofs.YtnjfkcimboidnaaDoor
open Go.RowKit
def PutForm (B:Nat) (t:Tr) (key:Int) (r:Roll) (w':World) (so:Option Addr) (n c:Nat) (rt E2:Int):Prop:=
 (putE t key r≠0∧E2=putE t key r)∨(putE t key r=0∧∃t2 h2 l2,Full t2 h2 l2∧Eqv t2.all (⟨key,r⟩::t.all)∧wtT t2≤wtT t+1 ∧
  ((E2=0∧treeFault t2=0∧rt=t2.root∧∀w'',Keep B w' w''→TreeAt w'' (.agg #[.slice so n c, .int .i64 rt]) t2)∨(E2=1∧treeFault t2≠0)))
theorem treePut_form {v:Value} {t:Tr} {key:Int} {r:Roll} {w:World} (h:TreeAt w v t) (hs:putE t key r=0→Small (⟨key,r⟩::t.all)) :
  Calls Tryd.prog 48 #[v, .int .i64 key, .agg #[.int .i64 r.c, .int .i64 r.s, .int .i64 r.mi, .int .i64 r.ma, .int .i64 r.t, .int .i64 r.l]] w fun x w'=>Below w.heap.size w w' ∧
   ∃so n c rt E2,x = .returned (.tuple #[.agg #[.slice so n c, .int .i64 rt], .int .i64 E2])∧PutForm w.heap.size t key r w' so n c rt E2:=by
 refine(treePut_any h hs).mono ?_
 rintro x w' ⟨hb,⟨h1,rfl⟩|⟨h1,t2,h2,l2,g1,g2,g3,⟨g4,v2,rfl,g5⟩|⟨g4,rfl⟩⟩⟩
 ·exact⟨hb,none,0,0,0,_,rfl, .inl ⟨h1,rfl⟩⟩
 ·obtain⟨nv,rfl,hn⟩:=g5 w' (Keep.refl _ _)
  obtain⟨⟨ao,cap,rfl⟩,-⟩:=hn.len
  exact⟨hb,_,_,_,_,_,rfl, .inr ⟨h1,t2,h2,l2,g1,g2,g3, .inl ⟨rfl,g4,rfl,g5⟩⟩⟩
 ·exact⟨hb,none,0,0,0,1,rfl, .inr ⟨h1,t2,h2,l2,g1,g2,g3, .inr ⟨rfl,g4⟩⟩⟩
theorem Full.grown {t2:Tr} {h2:Nat} {l2:List Int} (hf:Full t2 h2 l2) (h:treeFault t2≠0):3002<wtT t2:=Nat.lt_of_not_le fun hw=>h (hf.fault hw)
end Go.Proofs.YtnjfkcimboidnaaDoor
