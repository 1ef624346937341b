/- Lemmas of the proof. -/
import Derived.Test.YtmljjfhgciaceaaGreatDoorHd
import Derived.Test.YtmljjfhgciaceaaGreatDoorCz
import Derived.Test.YtmljjfhgciaceaaGreatDoorDG
import Derived.Test.YtmljjfhgciaceaaGreatDoorSO
import Derived.Test.YtmljjfhgciaceaaGreatDoorFG
import Derived.Test.YtmljjfhgciaceaaGreatDoorPU
import Derived.Test.YtmljjfhgciaceaaGreatDoorNC
import Derived.Test.YtmljjfhgciaceaaGreatDoorGT
import Derived.Test.YtmljjfhgciaceaaGreatDoorKG
import Derived.Test.YtmljjfhgciaceaaGreatDoorSR
import Derived.Test.YtmljjfhgciaceaaGreatDoorSP
set_option maxRecDepth 100000
set_option maxHeartbeats 4000000
namespace Go.Proofs.YtmljjfhgciaceaaGreatDoor
open Go.RowKit
section
variable {r0:Int} {xs:List Nd} {rs:List Raw} {w wr:World}
structure oJ (M:Nat) (w:World) (nv:Value) (rs:List Raw) (xs:List Nd):Prop where
 row:w.ownsRow M 125 5 nv rs (rs.flatMap bS)
 len:rs=xs.length
 uz:∀(i:Nat) r x,rs[i]?=some r->xs[i]?=some x->gQ M w r x
 apart:∀(i j:Nat) r s f g b,rs[i]?=some r->rs[j]?=some s->(r.iQ f).ownBlock=some b->(s.iQ g).ownBlock=some b->i=j/\f=g
 off:∀(i:Nat) r f b,rs[i]?=some r->(r.iQ f).ownBlock=some b->nv.ownBlock≠some b
structure OwnAt (w:World) (rs:List Raw) (xs:List Nd) (gv:Value) (r0:Int) (k:Nat) (wr:World):Prop where
 own:∃rs':List Raw,wr.ownsRow (w+2) 125 5 gv rs (rs'.flatMap bS)/\rs'=rs.length/\(∀(i:Nat) r x,i<k->rs'[i]?=some r->xs[i]?=some x->gQ (w+2) wr r x) /\
  (∀(i j:Nat) r s f h b,i<k->j<k->rs'[i]?=some r->rs'[j]?=some s->(r.iQ f).ownBlock=some b->(s.iQ h).ownBlock=some b->i=j/\f=h)/\(∀(i:Nat) r f b,i<k->rs'[i]?=some r->(r.iQ f).ownBlock=some b->gv.ownBlock≠some b)/\∀i:Nat,k<=i->rs'[i]?=rs[i]?
 below:aq w wr
 size:w+2<=wr.heap.size
 c0:wr.cell? (w,0)=some gv
 c1:wr.cell? (w,1)=some (af r0)
 cf:∀o,wr.frozen? ⟨w.heap.size,o,none⟩=false
 d0:∃u,wr.cell? (w,1,0)=some u
 d1:∃u,wr.cell? (w,1,1)=some u
 df:∀o,wr.frozen? ⟨w.heap.size+1,o,none⟩=false
theorem QS {wl:World} {rs':List Raw} {g gc k:Nat} {xk:Nd} (rn:Raw)
  (ho:wr.ownsRow (w+2) 125 5 (ah g rs gc) rs (rs'.flatMap bS)) (hl':rs'=rs.length)
  (hdone:∀(i:Nat) r x,i<k->rs'[i]?=some r->xs[i]?=some x->gQ (w+2) wr r x)
  (hapart:∀(i j:Nat) r s f h b,i<k->j<k->rs'[i]?=some r->rs'[j]?=some s->(r.iQ f).ownBlock=some b->(s.iQ h).ownBlock=some b->i=j/\f=h)
  (hoff:∀(i:Nat) r f b,i<k->rs'[i]?=some r->(r.iQ f).ownBlock=some b->(ah g rs gc).ownBlock≠some b)
  (hrest:∀i:Nat,k<=i->rs'[i]?=rs[i]?) (hlx:rs=xs.length) (hg1:w+2<=g) (hg2:g<wr) (hlt:k<rs) (hxk:xs[k]?=some xk)
  (cT:aq w wr) (_hsz:w+2<=wr.heap.size) (B:aq wr wl)
  (c0:wr.cell? (w,0)=some (ah g rs gc)) (c1:wr.cell? (w,1)=some (af r0)) (cf:∀o,wr.frozen? ⟨w.heap.size,o,none⟩=false)
  {u0 u1:Value} (d0:wr.cell? (w,1,0)=some u0) (d1:wr.cell? (w,1,1)=some u1) (df:∀o,wr.frozen? ⟨w.heap.size+1,o,none⟩=false)
  (HN:Kg (w+2) wr wl rn xk) :
  OwnAt w rs xs (ah g rs gc) r0 (k+1) (((((wl.setCell (g,k*5) (.bool rn.leaf)).setCell (g,k*5+1) rn.ev).setCell (g,k*5+2) rn.kv).setCell (g,k*5+3) rn.dv).setCell (g,k*5+4) rn.bv):=by
 obtain⟨wx,hwx⟩:=cd ((((((wl.setCell (g,k*5) (.bool rn.leaf)).setCell (g,k*5+1) rn.ev).setCell (g,k*5+2) rn.kv).setCell (g,k*5+3) rn.dv).setCell (g,k*5+4) rn.bv));have hown:wx.ownsRow (w+2) 125 5 (ah g rs gc) rs ((rs'.set k rn).flatMap bS):=by
  rw [hwx];exact td (cL ho B) hlt hl'.symm
 have hblk:∀b,b≠g->wx.heap[b]?=wl.heap[b]?:=fun b hb=>by rw [hwx];exact nN hb
 have LX:aq w wx:=by
  rw [hwx];have h0:aq w wl:=aF cT B cT.size;exact((((h0.setCell np _).setCell np _).setCell np _).setCell np _).setCell np _
 have hold:∀b,b<wr.heap.size->b≠g->wx.heap[b]?=wr.heap[b]?:=fun b hb hg=>(hblk b hg).trans (B.block b hb);have hcell:∀b o,b<w.heap.size+2->wx.cell? ⟨b,o,none⟩=wr.cell? ⟨b,o,none⟩:=fun b o hb=>oH (hold b ai ai);have hfro:∀b o,b<w.heap.size+2->wx.frozen? ⟨b,o,none⟩=wr.frozen? ⟨b,o,none⟩:=fun b o hb=>World.frozen?_of_block (hold b ai ai);have hsx:wl=wx.heap.size:=by rw [hwx];simp
 have fE:∀(i:Nat) s,i<k+1->(rs'.set k rn)[i]?=some s->(i=k/\s=rn)\/(i<k/\rs'[i]?=some s):=fun i s hi hs=>by
  by_cases hik:i=k
  ·subst hik;rw [List.getElem?_set_self ai]at hs;exact .inl ⟨rfl,(dh hs).symm⟩
  ·rw [zV (Ne.symm hik)]at hs;exact .inr ⟨ai,hs⟩
 have ir:∀(i:Nat) s f b,i<k->rs'[i]?=some s->(s.iQ f).ownBlock=some b->b<wr.heap.size/\b≠g:=fun i s f b hi hs hb=>by
  have jA:i<xs:=ai;refine⟨(((hdone i s _ hi hs (oZ jA)).row f).lt b hb).2,fun e=>hoff i s f b hi hs hb (by rw [e];rfl)⟩
 rw [<-hwx];refine⟨⟨rs'.set k rn,hown,by simp [hl'],fun i r x hi hr hx=>?_,fun i j r s f h b hi hj hr hs hb hb'=>?_,fun i r f b hi hr hb=>?_,fun i hi=>?_⟩,LX,?_,?_,?_,fun o=>?_,⟨u0,?_⟩,⟨u1,?_⟩,fun o=>?_⟩
 ·rcases fE i r hi hr with ⟨rfl,rfl⟩|⟨hik,hr⟩
  ·rw [hxk]at hx;injection hx with hx;subst hx;exact HN.own.block fun f b hb=>hblk b (by have:=HN.new f b hb;omega)
  ·exact(hdone i r x hik hr hx).block fun f b hb=>by
    obtain⟨q1,q2⟩:=ir i r f b hik hr hb;exact hold b q1 q2
 ·rcases fE i r hi hr with ⟨e1,e2⟩|⟨hik,hr2⟩
  ·rcases fE j s hj hs with ⟨e3,e4⟩|⟨hjk,hs2⟩
   ·subst e2 e4;exact⟨e1.trans e3.symm,HN.apart f h b hb hb'⟩
   ·subst e2;have:=(ir j s h b hjk hs2 hb').1;have:=(HN.new f b hb).1;omega
  ·rcases fE j s hj hs with ⟨e3,e4⟩|⟨hjk,hs2⟩
   ·subst e4;have:=(ir i r f b hik hr2 hb).1;have:=(HN.new h b hb').1;omega
   ·exact hapart i j r s f h b hik hjk hr2 hs2 hb hb'
 ·rcases fE i r hi hr with ⟨e1,e2⟩|⟨hik,hr2⟩
  ·subst e2;intro e;have e:g=b:=dh e;have:=(HN.new f b hb).1;omega
  ·exact hoff i r f b hik hr2 hb
 ·rw [zV ai];exact hrest i ai
 ·have:=B.size;omega
 ·rw [hcell _ _ ai];exact c0
 ·rw [hcell _ _ ai];exact c1
 ·rw [hfro _ _ ai];exact cf o
 ·rw [hcell _ _ ai];exact d0
 ·rw [hcell _ _ ai];exact d1
 ·rw [hfro _ _ ai];exact df o
theorem UE {gv:Value} {k:Nat} (h:OwnAt w rs xs gv r0 k wr) (hk:rs<=k) (hl:rs=xs.length) (v0 v1:Value) :
  ∃rs',aq w ((wr.setCell (w,1,0) v0).setCell (w,1,1) v1)/\oJ (w+2) ((wr.setCell (w,1,0) v0).setCell (w,1,1) v1) gv rs' xs:=by
 obtain⟨⟨rs',ho,hl',hdone,hapart,hoff,hrest⟩,cT,hsz,-,-,-,-,-,-⟩:=h;have hb:∀b,w.heap.size+2<=b->((wr.setCell (w,1,0) v0).setCell (w,1,1) v1).heap[b]?=wr.heap[b]?:=fun b hb=>
  (cH _ ⟨w.heap.size+1,_,none⟩ b v1 (by show b≠w+1;omega)).trans (cH _ ⟨w.heap.size+1,_,none⟩ b v0 (by show b≠w+1;omega))
 refine⟨rs',(cT.setCell np _).setCell np _,?_,ai,fun i r x hr hx=>?_,fun i j r s f h b hr hs=>hapart i j r s f h b (by have:=(dW.1 hr).1;omega) (by have:=(dW.1 hs).1;omega) hr hs,
  fun i r f b hr=>hoff i r f b (by have:=(dW.1 hr).1;omega) hr⟩
 ·rw [hl'];exact bJ ho fun g hg=>hb g (ho.lt g hg).1
 ·have hd:=hdone i r x (by have:=(dW.1 hr).1;omega) hr hx;exact hd.block fun f g hg=>hb g ((hd.row f).lt g hg).1
theorem FC {nv root:Value} (h:bn w nv xs) (hroot:∃r,root=af r) :
  Calls Tryz.prog 42 #[.agg #[nv,root]] w fun e w'=>∃nz rs',e = .returned (.agg #[nz,root])/\aq w w'/\oJ (w+2) w' nz rs' xs:=by
 obtain⟨r0,rfl⟩:=hroot;obtain⟨rs,hs,hr⟩:=id h;have hmax:rs.length<=9223372036854775806:=by obtain⟨_,_,_,_,_,h,_⟩:=hs;omega
 obtain⟨ao,cap,rfl⟩:=hs.isSlice;obtain⟨W0,hW0⟩:=cd ((w.alloc (.cells #[ah ao rs cap,af r0] 27)).alloc (.cells #[az 0 0,af 0] 27));have hb0:aq w W0:=by rw [hW0];exact((aW _ w).alloc aO _).alloc bh _
 have HC:=ag (yO (hs.below hb0 aO) hr.one);rw [hW0]at HC;clear h;go_enter Tryz.func42,Tryz.ntmps42;go_wp2_with (go_at_call 88;refine HC.mono ?_;rintro e w1 ⟨gv,rfl,hown,hb1⟩;obtain⟨go,gc,rfl⟩:=aU hown;obtain⟨p1,p2,p3⟩:=rY hb1 (B:=w.heap.size) np;obtain⟨q1,q2,q3⟩:=rY hb1 (B:=w.heap.size+1) bh);have Y4:w+2<=w1.heap.size:=by have:=hb1.size;simp at this;omega
 go_loopg [12] rs (fun g c wr=>∃k,k<=rs.length/\g=rs.length-k/\c=af k/\OwnAt w rs xs (ah go rs gc) r0 k wr)
 case atStart=>
  refine⟨0,eY _,rfl,rfl,?_⟩;refine⟨⟨rs,jy (by simpa using hown) ai _,rfl,bh,bh,bh,fun i _=>rfl⟩,?_,by simpa [aG] using Y4,?_,?_,?_,?_,?_,?_⟩
  ·refine Below.setCell ?_ np _;exact aF (hW0▸hb0) hb1 np
  all_goals first|(go_simp;done)|(simp [p2,p3,q2,q3];done)|(intro o;go_simp;done)|(intro o;simp [p2,p3,q2,q3];done)
 case round=>
  obtain⟨k,hk,rfl,rfl,HI⟩:=hrel;clear p1 p2 p3 q1 q2 q3 hown hb1 hb0 hW0 HC;by_cases hlt:k<rs
  ·obtain⟨⟨rs',ho,hl',hdone,hapart,hoff,hrest⟩,cT,hsz,c0,c1,cf,⟨u0,d0⟩,⟨u1,d1⟩,df⟩:=HI;obtain⟨g,cap2,hf,hg1,hg2⟩:=ho.form ai;injection hf with hf _ hcap;subst hf;subst hcap;obtain⟨rk,LI⟩:=bG (rs'[k]'(by omega));obtain⟨e0,e1,e2,e3,e4,ef⟩:=vF ho hl' (by omega:k<rs');rw [LI]at e0 e1 e2 e3 e4;have Qc:k<xs:=by rw [<-hr.1];exact hlt
   obtain⟨xk,hxk⟩:=bG (xs[k]);have IW:xs[k]?=some xk:=by rw [<-hxk];simp [Qc]
   have O5:rs'[k]?=some rk:=by rw [<-LI];simp
   have hN:nS w rk xk:=hr.2 k rk xk ((hrest k aO)▸O5) IW;clear LI;obtain⟨lf,ev,kv,dv,bv⟩:=rk;obtain⟨O8,hE,hK,hD,hB⟩:=hN;obtain⟨a1,n1,rfl⟩:=hE.isSlice;obtain⟨a2,n2,rfl⟩:=hK.isSlice;obtain⟨a3,n3,rfl⟩:=hD.isSlice;obtain⟨a4,n4,rfl⟩:=hB.isSlice;simp only at e0 e1 e2 e3 e4 O8 hE hK hD hB;subst O8;obtain⟨W5,mD⟩:=cd (wr.alloc (.cells #[Value.bool xk.leaf,ah a1 xk.aI n1,ah a2 xk.keys n2,ah a3 xk.kids n3,ah a4 xk.buf n4] 125));have tS:aq wr W5:=by rw [mD];exact(aW _ _).alloc aO _
   have z5:W5=wr.heap.size+1:=by rw [mD];simp
   have n0:W5.heap[wr.heap.size]?=some (.cells #[Value.bool xk.leaf,ah a1 xk.aI n1,ah a2 xk.keys n2,ah a3 xk.kids n3,ah a4 xk.buf n4] 125):=by rw [mD];exact au _ _ rfl
   have HS:=ag fun(W:World) (hb:aq W5 W)=>(by
    have hh:=(hb.block _ ai).trans n0;refine⟨?_,by simp [World.cell?,hh],by simp [World.cell?,hh],by simp [World.cell?,hh],by simp [World.cell?,hh],by simp [World.cell?,hh]⟩;rw [(aF tS hb tS.size).cell (p:=⟨w.heap.size,0,none⟩) (by show w.heap.size<wr.heap.size;omega)];exact c0:W.cell? ⟨w.heap.size,0,none⟩=some (.slice (some ⟨g,0,none⟩) rs.length gc)/\W.cell? ⟨wr.heap.size,0,none⟩=some (.bool xk.leaf)/\W.cell? ⟨wr.heap.size,1,none⟩=some (.slice a1 xk.aI.length n1)/\W.cell? ⟨wr.heap.size,2,none⟩=some (.slice a2 xk.keys.length n2)/\W.cell? ⟨wr.heap.size,3,none⟩=some (.slice a3 xk.kids.length n3)/\W.cell? ⟨wr.heap.size,4,none⟩=some (.slice a4 xk.buf.length n4))
   have HG:=ag fun(W:World) (hb:aq W5 W)=>(by
    have bb:=aF tS hb tS.size;exact⟨(bb.cell (p:=⟨g,_,none⟩) hg2).trans e0,(bb.cell (p:=⟨g,_,none⟩) hg2).trans e1,(bb.cell (p:=⟨g,_,none⟩) hg2).trans e2,(bb.cell (p:=⟨g,_,none⟩) hg2).trans e3,(bb.cell (p:=⟨g,_,none⟩) hg2).trans e4,fun o=>(bb.frozen (p:=⟨g,_,none⟩) hg2).trans (ef o)⟩:W.cell? (g,k*5)=some (.bool xk.leaf)/\W.cell? (g,k*5+1)=some (ah a1 xk.aI n1)/\W.cell? (g,k*5+2)=some (ah a2 xk.keys n2)/\W.cell? (g,k*5+3)=some (ah a3 xk.kids n3)/\W.cell? (g,k*5+4)=some (ah a4 xk.buf n4)/\∀o,W.frozen? ⟨g,o,none⟩=false)
   have Qe:∀W,aq W5 W->aq w W:=fun W hb=>aF cT (aF tS hb tS.size) cT.size;have HCE:=ag fun(W:World) (hb:aq W5 W)=>fT (hE.below (Qe W hb) aO);have jD:=ag fun(W:World) (hb:aq W5 W)=>eQ (hK.below (Qe W hb) aO);have HCD:=ag fun(W:World) (hb:aq W5 W)=>eQ (hD.below (Qe W hb) aO);have HCB:=ag fun(W:World) (hb:aq W5 W)=>fT (hB.below (Qe W hb) aO);have HST:=ag fun(wl:World) (B:aq wr wl) (rn:Raw) (HN:Kg (w+2) wr.heap.size wl rn xk)=>QS rn ho hl' hdone hapart hoff hrest hr.1 hg1 hg2 hlt IW cT hsz B c0 c1 cf d0 d1 df HN;have HW5:=ag (aJ tS hsz);have jA:=fun w'=>dU (ab:=g) (aR:=0) (n:=rs.length) (cap:=gc) (show (k:Int)=((k:Nat):Int) by rfl) hlt w';simp only [iR]at jA;go_upto_region 5 with (fail);rw [<-mD];clear hr hs cT hsz ho hl' hdone hapart hoff hrest e0 e1 e2 e3 e4 ef c0 c1 cf d0 d1 df hE hK hD hB tS n0 Qe mD;have T0:aq W5 W5.drew:=(aW _ _).drew;refine bN [(0,1),(1,0),(2,1),(3,1),(4,0),(5,1),(6,0),(8,1),(9,0),(11,1),(12,0),(14,1),(15,0),(7,2),(10,2),(13,2),(16,2),(17,1),(18,1),(19,3)] 19
    (fun W=>W.cell? (w,0)=some (ah g rs gc)/\W.cell? (wr,0)=some (.bool xk.leaf)/\W.cell? (wr,1)=some (ah a1 xk.aI n1)/\W.cell? (wr,2)=some (ah a2 xk.keys n2)/\W.cell? (wr,3)=some (ah a3 xk.kids n3)/\W.cell? (wr,4)=some (ah a4 xk.buf n4)) cV cV (HS _ T0) ?_
   (simp only [bV,List.filterMap_cons,List.filterMap_nil,List.getElem?_cons_zero,List.getElem?_cons_succ,Option.map_some])
   (repeat first|refine bg ?_|refine aZ ?_)
   refine aP rfl (fun K hK=>?_);go_simp
   (with_reducible refine(HCE.out _ T0).mono ?_);rintro e wE ⟨vE,rfl,oE,bE⟩
   obtain⟨aE,cE,rfl⟩:=aU oE;have TE:=aF T0 bE aO;go_simp;refine hK _ _ (HS _ TE) ?_;clear hK K;refine aP rfl (fun K hK=>?_);go_simp
   (with_reducible refine(jD.out _ TE).mono ?_);rintro e wK ⟨vK,rfl,oK,bK⟩
   obtain⟨aK,cK,rfl⟩:=aU oK;have TK:=aF TE bK TE.size;go_simp;refine hK _ _ (HS _ TK) ?_;clear hK K;refine aP rfl (fun K hK=>?_);go_simp
   (with_reducible refine(HCD.out _ TK).mono ?_);rintro e wD ⟨vD,rfl,oD,bD⟩
   obtain⟨aD,cD,rfl⟩:=aU oD;have TD:=aF TK bD TK.size;go_simp;refine hK _ _ (HS _ TD) ?_;clear hK K;refine aP rfl (fun K hK=>?_);go_simp
   (with_reducible refine(HCB.out _ TD).mono ?_);rintro e wB ⟨vB,rfl,oB,bB⟩
   obtain⟨aB,cB,rfl⟩:=aU oB;have TB:=aF TD bB TD.size;go_simp;refine hK _ _ (HS _ TB) ?_;clear hK K;obtain⟨x0,x1,x2,x3,x4,xf⟩:=HG _ TB;have HN:=ag (show OwnAt w rs xs (ah g rs gc) r0 (k+1) _ from HST wB (aF HW5.1 TB HW5.1.size) ⟨xk.leaf,ah aE xk.aI cE,ah aK xk.keys cK,ah aD xk.kids cD,ah aB xk.buf cB⟩ (by
    have s5:=HW5.1.size;have s0:=T0.size;have hsz:=HW5.2;have sE:=TE.size;have sK:=bK.size;have sD:=bD.size;have sB:=bB.size;have sE':=bE.size;have lE:=oE.lt;have lK:=oK.lt;have lD:=oD.lt;have lB:=oB.lt;refine⟨gQ.of rfl (cF (cL (cL (cL oE bK) bD) bB) ai) (cF (cL (cL oK bD) bB) ai) (cF (cL oD bB) ai) (cF oB ai),fun f b hb=>?_,fun f h b hb hb'=>?_⟩
    ·rcases mA f 4 with h4|h4
     ·rcases xg h4 with rfl|rfl|rfl|rfl
      ·have:=lE b hb;omega
      ·have:=lK b hb;omega
      ·have:=lD b hb;omega
      ·have:=lB b hb;omega
     ·rw [Raw.iH _ h4]at hb;cases hb
    ·rcases mA f 4 with h4|h4
     ·rcases mA h 4 with g4|g4
      ·rcases xg h4 with rfl|rfl|rfl|rfl <;> rcases xg g4 with rfl|rfl|rfl|rfl <;> first
        |rfl
        |(have:=lE b hb;have:=lK b hb';omega)
        |(have:=lE b hb;have:=lD b hb';omega)
        |(have:=lE b hb;have:=lB b hb';omega)
        |(have:=lK b hb;have:=lE b hb';omega)
        |(have:=lK b hb;have:=lD b hb';omega)
        |(have:=lK b hb;have:=lB b hb';omega)
        |(have:=lD b hb;have:=lE b hb';omega)
        |(have:=lD b hb;have:=lK b hb';omega)
        |(have:=lD b hb;have:=lB b hb';omega)
        |(have:=lB b hb;have:=lE b hb';omega)
        |(have:=lB b hb;have:=lK b hb';omega)
        |(have:=lB b hb;have:=lD b hb';omega)
      ·rw [Raw.iH _ g4]at hb';cases hb'
     ·rw [Raw.iH _ h4]at hb;cases hb))
   clear oE oK oD oB bE bK bD bB TE TK TD
   (repeat first|refine bg ?_|refine aZ ?_)
   refine bq rfl (fun K hK=>?_);go_simp;refine hK _ _ ?_;clear hK K;refine cC ?_;go_wp2;go_roundg (rs-(k+1))
   case measure=>omega
   case rel=>exact⟨k+1,ai,rfl,by go_num,HN⟩
  ·have hkk:rs<=k:=ai;have HE:=ag (UE HI hkk hr.1);obtain⟨-,-,-,c0,c1,cf,⟨u0,d0⟩,⟨u1,d1⟩,df⟩:=HI;clear hr hs Y4;go_wp2;obtain⟨rs',h1,h2⟩:=HE (ah go rs gc) (af r0);exact bW (v:= .agg #[ah go rs gc,af r0]) (by simp [results,Tryz.results42,d0,d1,go_sem]) rfl ⟨_,rs',rfl,h1,h2⟩
end
section
variable {l:List Int} {rs:List Raw} {M bb:Nat} {t:Tr} {nv:Value} {w:World}
theorem oJ.bd {W5:World} (h:oJ M w nv rs t.nodes) (hM:M<=w) (h5:W5=w.alloc (.cells #[nv,af t.root,af 0] 165)):Bd M W5 w nv rs t:=by
 subst h5;refine⟨hM,au _ _ rfl,Dn h.row _,h.len,fun i r x hr hx=>⟨(h.uz i r x hr hx).leaf,fun f=>Dn ((h.uz i r x hr hx).row f) _⟩,h.apart,fun e=>?_,fun i r f b hr hb=>⟨fun e=>?_,h.off i r f b hr hb⟩⟩
 ·have:=(h.row.lt _ e).2;omega
 ·have hi:=(dW.1 hr).1;rw [h.len]at hi;have:=(((h.uz i r _ hr (oZ hi)).row f).lt b hb).2;omega
theorem oJ.mono {M':Nat} {xs:List Nd} (h:oJ M w nv rs xs) (hM:M'<=M):oJ M' w nv rs xs:=
 ⟨cF h.row hM,h.len,fun i r x hr hx=>⟨(h.uz i r x hr hx).leaf,fun f=>cF ((h.uz i r x hr hx).row f) hM⟩,h.apart,h.off⟩
theorem Bd.root (h:Bd M w bb nv rs t) (n:Int):Bd M (w.setCell (bb,1) (af n)) bb nv rs { t with root:=n }:=by
 have hb:∀b,b≠bb->(w.setCell (bb,1) (af n)).heap[b]?=w.heap[b]?:=fun b hb=>cH w ⟨bb,_,none⟩ b _ hb;refine⟨h.low,?_,bJ h.row fun g hg=>hb g (fun e=>h.oN (by rw [<-e];exact hg)),h.len,fun i r x hr hx=>(h.uz i r x hr hx).block fun f g hg=>hb g (h.off i r f g hr hg).1,h.apart,h.oN,h.off⟩;have:=aM (off:=1) (v:=af n) h.box;simpa using this
theorem Bd.Qt (h:Bd M w bb nv rs t) {ht:Nat} (hf:Full t ht l) (hl:t.nodes.length<=1000000):di w (.agg #[nv,af t.root]) t:=
 ⟨nv,rfl,h.nodes (by rw [h.len];exact hl) fun x hx f=>by
  have:=hf.node x hx;rcases mA f 4 with h4|h4
  ·rcases xg h4 with rfl|rfl|rfl|rfl
   ·show x.aI.length<=_;omega
   ·show x.keys.length<=_;omega
   ·show x.kids.length<=_;omega
   ·show x.buf.length<=_;omega
  ·obtain⟨k,rfl⟩:∃k,f=k+4:=⟨f-4,ai⟩;show 0<=_;omega⟩
abbrev nY:Value:= .agg #[az 0 0,af 0]
def Gt (B:Nat) (t:Tr) (e:aH) (x:Ending) (w':World):Prop:=
 ∃t2 h2 l2,Full t2 h2 l2/\jv t2.all (e::t.all)/\qE t2<=qE t+1 /\
  ((aC t2=0/\∃v2,x = .returned (.tuple #[v2,af 0])/\∀w'',aQ B w' w''->di w'' v2 t2)\/(aC t2≠0/\x = .returned (.tuple #[nY,af 1])))
theorem Sm {t2:Tr} {h h2:Nat} {l2:List Int} (hf:Full t h l) (hf2:Full t2 h2 l2) (hn:t.nodes.length<=2000) (hw:qE t2<=qE t+1):t2.nodes.length<=20000:=by
 obtain⟨k,a1,a2,-⟩:=hf2.bound;have:=hf.aaS;omega
end
section
variable {key:Int} {n cap:Nat} {ao:Option Addr} {r:ax} {t:Tr} {w:World}
structure P0 (w:World) (ao:Option Addr) (n cap:Nat) (root:Int) (r:ax) (w':World):Prop where
 below:aq w w'
 size:w+3<=w'.heap.size
 t0:w'.cell? (w,0)=some (ah ao n cap)
 t1:w'.cell? (w,1)=some (af root)
 r0:w'.cell? (w,1,0)=some (af r.c)
 r1:w'.cell? (w,1,1)=some (af r.s)
 r2:w'.cell? (w,1,2)=some (af r.mi)
 r3:w'.cell? (w,1,3)=some (af r.ma)
 r4:w'.cell? (w,1,4)=some (af r.t)
 r5:w'.cell? (w,1,5)=some (af r.l)
 z0:w'.cell? (w,2,0)=some (az 0 0)
 z1:w'.cell? (w,2,1)=some (af 0)
 zf:∀o,w'.frozen? ⟨w.heap.size+2,o,none⟩=false
theorem P0.start (w:World) (ao:Option Addr) (n cap:Nat) (root:Int) (r:ax) {W0:World} (h:W0=((w.alloc (.cells #[ah ao n cap,af root] 27)).alloc (.cells #[af r.c,af r.s,af r.mi,af r.ma,af r.t,af r.l] 39)).alloc (.cells #[az 0 0,af 0] 27)) :
  P0 w ao n cap root r W0:=by
 have k0:W0.heap[w.heap.size]?=some (.cells #[ah ao n cap,af root] 27):=by
  rw [h,gy _ _ _ fk,gy _ _ _ bh];exact au _ _ rfl
 have k1:W0.heap[w.heap.size+1]?=some (.cells #[af r.c,af r.s,af r.mi,af r.ma,af r.t,af r.l] 39):=by
  rw [h,gy _ _ _ bh];exact au _ _ bh
 have k2:W0.heap[w.heap.size+2]?=some (.cells #[az 0 0,af 0] 27):=by
  rw [h];exact au _ _ bh
 refine⟨by rw [h];exact aj,by rw [h];simp,?_,?_,?_,?_,?_,?_,?_,?_,?_,?_,fun o=>?_⟩
 all_goals simp [World.cell?,World.frozen?,k0,k1,k2]
theorem P0.later {root:Int} {w1 w2:World} {B:Nat} (h:P0 w ao n cap root r w1) (hb:Below B w1 w2) (hB:w+3<=B):P0 w ao n cap root r w2:=by
 have hs:=h.size;have c:∀b o,b<w.heap.size+3->w2.cell? ⟨b,o,none⟩=w1.cell? ⟨b,o,none⟩:=fun b o h=>hb.cell (p:=⟨b,o,none⟩) (by show b<B;omega);refine⟨⟨hb.os.trans h.below.os,hb.tape.trans h.below.tape,hb.output.trans h.below.output,fZ h.below.size hb.size,fun k hk=>(hb.block k ai).trans (h.below.block k hk)⟩,by have:=hb.size;omega,(c _ _ ai).trans h.t0,(c _ _ ai).trans h.t1,
  (c _ _ ai).trans h.r0,(c _ _ ai).trans h.r1,(c _ _ ai).trans h.r2,(c _ _ ai).trans h.r3,(c _ _ ai).trans h.r4,(c _ _ ai).trans h.r5,(c _ _ ai).trans h.z0,(c _ _ ai).trans h.z1,
  fun o=>(hb.frozen (p:=⟨w.heap.size+2,o,none⟩) (by show w+2<B;omega)).trans (h.zf o)⟩
theorem yg {M:Nat} {b:Nat} {e:TypeId} {us:List Value} (hM:M<=b) (h:w.heap[b]?=some (.cells us.toArray e)) (hn:us=n) (hl:n<=1000):w.ownsRow M e 1 (ah b n n) n us:=
 ⟨by rw [hn];simp, .inr ⟨b,n,us.toArray,rfl,hM,h,nu _,by unfold maxLen;omega,by simp [hn],by simp [<-hn]⟩⟩
theorem Sj (hf:aC t=0) (iy:0<=key) (hk:key<1099511627776):Ej t key=L8 t key:=by
 rw [Bt,aw hf,aw ⟨iy,ai⟩];exact ND (cZ hf).2 iy hk
theorem Vw (hf:aC t=0) (iy:0<=key) (hk:key<1099511627776) (hl:1073741824<(look t.all key).c):Ej t key=(ax.zero,1):=by
 rw [Sj hf iy hk];unfold L8;rw [ar ai]
theorem Je (hf:aC t=0) (iy:0<=key) (hk:key<1099511627776) (hl:(look t.all key).c<=1073741824):Ej t key=(look t.all key,0):=by
 rw [Sj hf iy hk];unfold L8;rw [aw hl]
theorem Cw (hf:aC t=0) (hl:(look t.all key).c<=1073741824):av (look t.all key)=0:=
 (fG _).2 ⟨dM (cP (cZ hf).2).cp.dV key,hl⟩
theorem OL (hf:aC t=0) (hr:av r=0) (hl:(look t.all key).c<=1073741824) (hm:1073741824<(look t.all key).c+r.c):bF (look t.all key) r=(ax.zero,1):=by
 rw [iL (Cw hf hl) hr,ar ai]
theorem Ll (hf:aC t=0) (hr:av r=0) (hl:(look t.all key).c<=1073741824) (hm:(look t.all key).c+r.c<=1073741824):bF (look t.all key) r=((look t.all key).join r,0):=by
 rw [iL (Cw hf hl) hr,aw ai]
theorem sZ (hn:bn w (ah ao t.nodes cap) t.nodes) {E:Int} (hE:(aC t≠0/\E=aC t)\/(aC t=0/\key<0/\E=2)\/(aC t=0/\0<=key/\1099511627776<=key/\E=2)\/(aC t=0/\0<=key/\key<1099511627776/\r.c=0/\E=2)\/(aC t=0/\0<=key/\key<1099511627776/\r.c≠0/\av r≠0/\E=av r)\/(aC t=0/\0<=key/\key<1099511627776/\r.c≠0/\av r=0/\1073741824<(look t.all key).c/\E=1)\/(aC t=0/\0<=key/\key<1099511627776/\r.c≠0/\av r=0/\(look t.all key).c<=1073741824/\1073741824<(look t.all key).c+r.c/\E=1)) :
  Calls Tryz.prog 70 #[.agg #[ah ao t.nodes cap,af t.root],af key, .agg #[af r.c,af r.s,af r.mi,af r.ma,af r.t,af r.l]] w fun x w'=>aq w w'/\x = .returned (.tuple #[nY,af E]):=by
 obtain⟨W0,hW0⟩:=cd (((w.alloc (.cells #[ah ao t.nodes cap,af t.root] 27)).alloc (.cells #[af r.c,af r.s,af r.mi,af r.ma,af r.t,af r.l] 39)).alloc (.cells #[az 0 0,af 0] 27));have h0:=P0.start w ao t.nodes cap t.root r hW0;have uX:=ag h0;have HT:=ag (show ∀w',aq w w'->di w' (.agg #[ah ao t.nodes cap,af t.root]) t from fun w' hb=>⟨_,rfl,hn.below hb aO⟩);have jD:=ag (kQ (HT W0 h0.below));have HN:=ag (show ∀w',aq w w'->bn w' (ah ao t.nodes cap) t.nodes from fun w' hb=>hn.below hb aO);have z0:=h0.size;obtain⟨-,-,q0,q1,-,-,-,-,-,-,-,-,-⟩:=h0;clear hn;have HE:=ag hE;clear hE;go_enter Tryz.func70,Tryz.ntmps70;go_upto_region 1 with (fail);rw [<-hW0];clear hW0;rcases HE.out with ⟨hf,rfl⟩|⟨hf,hk,rfl⟩|⟨hf,iy,hk,rfl⟩|⟨hf,iy,hk,hc,rfl⟩|⟨hf,iy,hk,hc,hr,rfl⟩|⟨hf,iy,hk,hc,hr,hl,rfl⟩|⟨hf,iy,hk,hc,hr,hl,hm,rfl⟩ <;> clear HE
 ·have d2:(aC t != 0)=true:=by simp [hf]
  obtain⟨F,hF⟩:=bG (aC t);rw [hF]at jD d2;have HF:=ag hF;clear hf hF;go_wp2_with (first|(go_at_call 107;(with_reducible refine jD.out.mono ?_);rintro e w1 ⟨rfl,hb1⟩;have hp1:=uX.later hb1 z0;have iN:=ag hp1;have z1:=hp1.size;obtain⟨-,-,Kk,q1',r0,r1,r2,r3,r4,r5,c0,c1,cf⟩:=hp1;clear hb1 q0 q1));have cT:=iN.below;exact bW (v:= .tuple #[nY,af F]) (by simp [results,Tryz.results70,go_sem, *]) rfl ⟨aj,(by rw [HF])⟩
 ·rw [hf]at jD;clear hf;go_wp2_with (first|(go_at_call 107;(with_reducible refine jD.out.mono ?_);rintro e w1 ⟨rfl,hb1⟩;have hp1:=uX.later hb1 z0;have iN:=ag hp1;have z1:=hp1.size;obtain⟨-,-,Kk,q1',r0,r1,r2,r3,r4,r5,c0,c1,cf⟩:=hp1;clear hb1 q0 q1));have cT:=iN.below;exact bW (v:= .tuple #[nY,af 2]) (by simp [results,Tryz.results70,go_sem, *]) rfl ⟨aj,rfl⟩
 ·rw [hf]at jD;clear hf;go_wp2_with (first|(go_at_call 107;(with_reducible refine jD.out.mono ?_);rintro e w1 ⟨rfl,hb1⟩;have hp1:=uX.later hb1 z0;have iN:=ag hp1;have z1:=hp1.size;obtain⟨-,-,Kk,q1',r0,r1,r2,r3,r4,r5,c0,c1,cf⟩:=hp1;clear hb1 q0 q1));have cT:=iN.below;exact bW (v:= .tuple #[nY,af 2]) (by simp [results,Tryz.results70,go_sem, *]) rfl ⟨aj,rfl⟩
 ·rw [hf]at jD;clear hf;go_wp2_with (first|(go_at_call 107;(with_reducible refine jD.out.mono ?_);rintro e w1 ⟨rfl,hb1⟩;have hp1:=uX.later hb1 z0;have iN:=ag hp1;have z1:=hp1.size;obtain⟨-,-,Kk,q1',r0,r1,r2,r3,r4,r5,c0,c1,cf⟩:=hp1;clear hb1 q0 q1));have cT:=iN.below;exact bW (v:= .tuple #[nY,af 2]) (by simp [results,Tryz.results70,go_sem, *]) rfl ⟨aj,rfl⟩
 ·rw [hf]at jD;have d2:(av r != 0)=true:=by simp [hr]
  obtain⟨F,hF⟩:=bG (av r);rw [hF]at d2;have HF:=ag hF;have b1:¬key<0:=ai;have b2:¬1099511627776<=key:=ai;have b3:(r.c == 0)=false:=(by simp [hc]);clear hf hr hF;go_wp2_with (first|(go_at_call 107;(with_reducible refine jD.out.mono ?_);rintro e w1 ⟨rfl,hb1⟩;have hp1:=uX.later hb1 z0;have iN:=ag hp1;have z1:=hp1.size;obtain⟨-,-,Kk,q1',r0,r1,r2,r3,r4,r5,c0,c1,cf⟩:=hp1;clear hb1 q0 q1)|(go_at_call 31;(with_reducible refine(lX (r:=r) (aW _ w1)).mono ?_);rw [HF];rintro e w2 ⟨rfl,hb2⟩;have hp2:=iN.later hb2 z1;have qC:=ag hp2;have z2:=hp2.size;clear r0 r1 r2 r3 r4 r5 c0 c1 cf Kk q1';obtain⟨-,-,q0,q1,r0,r1,r2,r3,r4,r5,c0,c1,cf⟩:=hp2;clear hb2));have cT:=qC.below;exact bW (v:= .tuple #[nY,af F]) (by simp [results,Tryz.results70,go_sem, *]) rfl ⟨aj,(by rw [HF])⟩
 ·have HG:=ag (Vw hf iy hk hl);have b1:¬key<0:=ai;have b2:¬1099511627776<=key:=ai;have b3:(r.c == 0)=false:=(by simp [hc]);clear hl;rw [hf]at jD;clear hf;go_upto_region 10 with (first|(go_at_call 107;(with_reducible refine jD.out.mono ?_);rintro e w1 ⟨rfl,hb1⟩;have hp1:=uX.out.later hb1 z0;have iN:=ag hp1;have z1:=hp1.size;obtain⟨-,-,Kk,q1',r0,r1,r2,r3,r4,r5,c0,c1,cf⟩:=hp1;clear hb1 q0 q1)|(go_at_call 31;(with_reducible refine(lX (r:=r) (aW _ w1)).mono ?_);rw [hr];rintro e w2 ⟨rfl,hb2⟩;have hp2:=iN.out.later hb2 z1;have qC:=ag hp2;have z2:=hp2.size;clear r0 r1 r2 r3 r4 r5 c0 c1 cf Kk q1';obtain⟨-,-,q0,q1,r0,r1,r2,r3,r4,r5,c0,c1,cf⟩:=hp2;clear hb2)|(go_at_call 108;(with_reducible refine(F7 (key:=key) (HT.out w2 qC.out.below)).mono ?_);rw [HG.out];rintro e w3 ⟨rfl,hb3⟩;have Kl:=qC.out.later hb3 z2;have zm:=ag Kl;have z3:=Kl.size;clear r0 r1 r2 r3 r4 r5 c0 c1 cf q0 q1;obtain⟨-,-,q0,q1,r0,r1,r2,r3,r4,r5,c0,c1,cf⟩:=Kl;clear hb3));obtain⟨W3,hW3⟩:=cd (w3.alloc (.cells #[af ax.zero.c,af ax.zero.s,af ax.zero.mi,af ax.zero.ma,af ax.zero.t,af ax.zero.l] 39));have hb3:aq w3 W3:=by rw [hW3];exact aj
  have l3:W3.heap[w3.heap.size]?=some (.cells #[af ax.zero.c,af ax.zero.s,af ax.zero.mi,af ax.zero.ma,af ax.zero.t,af ax.zero.l] 39):=by rw [hW3];exact au _ _ rfl
  have Z3:W3=w3.heap.size+1:=by rw [hW3];simp
  have Xf:=ag (zm.later hb3 z3);rw [<-hW3];clear r0 r1 r2 r3 r4 r5 c0 c1 cf q0 q1 hW3 hb3;obtain⟨-,-,q0,q1,r0,r1,r2,r3,r4,r5,c0,c1,cf⟩:=Xf.out;clear l3;go_wp2_with fail;have cT:=Xf.below;exact bW (v:= .tuple #[nY,af 1]) (by simp [results,Tryz.results70,go_sem, *]) rfl ⟨aj,rfl⟩
 ·have HG:=ag (Je hf iy hk hl);have HM:=ag (OL hf hr hl hm);have b1:¬key<0:=ai;have b2:¬1099511627776<=key:=ai;have b3:(r.c == 0)=false:=(by simp [hc]);clear hl hm;obtain⟨L,hL⟩:=bG (look t.all key);rw [hL]at HG HM;clear hL;rw [hf]at jD;clear hf;go_upto_region 10 with (first|(go_at_call 107;(with_reducible refine jD.out.mono ?_);rintro e w1 ⟨rfl,hb1⟩;have hp1:=uX.out.later hb1 z0;have iN:=ag hp1;have z1:=hp1.size;obtain⟨-,-,Kk,q1',r0,r1,r2,r3,r4,r5,c0,c1,cf⟩:=hp1;clear hb1 q0 q1)|(go_at_call 31;(with_reducible refine(lX (r:=r) (aW _ w1)).mono ?_);rw [hr];rintro e w2 ⟨rfl,hb2⟩;have hp2:=iN.out.later hb2 z1;have qC:=ag hp2;have z2:=hp2.size;clear r0 r1 r2 r3 r4 r5 c0 c1 cf Kk q1';obtain⟨-,-,q0,q1,r0,r1,r2,r3,r4,r5,c0,c1,cf⟩:=hp2;clear hb2)|(go_at_call 108;(with_reducible refine(F7 (key:=key) (HT.out w2 qC.out.below)).mono ?_);rw [HG.out];rintro e w3 ⟨rfl,hb3⟩;have Kl:=qC.out.later hb3 z2;have zm:=ag Kl;have z3:=Kl.size;clear r0 r1 r2 r3 r4 r5 c0 c1 cf q0 q1;obtain⟨-,-,q0,q1,r0,r1,r2,r3,r4,r5,c0,c1,cf⟩:=Kl;clear hb3));obtain⟨W3,hW3⟩:=cd (w3.alloc (.cells #[af L.c,af L.s,af L.mi,af L.ma,af L.t,af L.l] 39));have hb3:aq w3 W3:=by rw [hW3];exact aj
  have l3:W3.heap[w3.heap.size]?=some (.cells #[af L.c,af L.s,af L.mi,af L.ma,af L.t,af L.l] 39):=by rw [hW3];exact au _ _ rfl
  have Z3:W3=w3.heap.size+1:=by rw [hW3];simp
  have Xf:=ag (zm.later hb3 z3);rw [<-hW3];clear r0 r1 r2 r3 r4 r5 c0 c1 cf q0 q1 hW3 hb3;obtain⟨-,-,q0,q1,r0,r1,r2,r3,r4,r5,c0,c1,cf⟩:=Xf.out;obtain⟨m0,m1,m2,m3,m4,m5⟩:(W3,w3.heap.size,0,L.c)/\(W3,w3.heap.size,1,L.s)/\(W3,w3.heap.size,2,L.mi)/\(W3,w3.heap.size,3,L.ma)/\(W3,w3.heap.size,4,L.t)/\(W3,w3.heap.size,5,L.l):=by simp [World.cell?,l3]
  clear l3;go_upto_region 13 with (first|(go_at_call 15;(with_reducible refine(lT L r W3).mono ?_);rw [HM];rintro e w4 ⟨rfl,hb4⟩));obtain⟨W4,yH⟩:=cd (w4.alloc (.cells #[af ax.zero.c,af ax.zero.s,af ax.zero.mi,af ax.zero.ma,af ax.zero.t,af ax.zero.l] 39));have R8:aq W3 W4:=by rw [yH];exact aF hb4 ((aW _ _).alloc aO _) hb4.size
  have zz4:W4=w4.heap.size+1:=by rw [yH];simp
  have z4:w+3<=W4.heap.size:=by have:=R8.size;omega
  have ZE:=ag (Xf.later R8 ai);rw [<-yH];clear r0 r1 r2 r3 r4 r5 c0 c1 cf q0 q1 yH hb4 m0 m1 m2 m3 m4 m5;obtain⟨-,-,q0,q1,r0,r1,r2,r3,r4,r5,c0,c1,cf⟩:=ZE.out;go_wp2_with fail;have cT:=ZE.below;exact bW (v:= .tuple #[nY,af 1]) (by simp [results,Tryz.results70,go_sem, *]) rfl ⟨aj,rfl⟩
theorem QL (hn:bn w (ah ao t.nodes cap) t.nodes) (hf:aC t=0) (iy:0<=key) (hk:key<1099511627776) (hc:r.c≠0) (hr:av r=0) (hm:(look t.all key).c+r.c<=1073741824) (hs:Small (⟨key,r⟩::t.all)) :
  Calls Tryz.prog 70 #[.agg #[ah ao t.nodes cap,af t.root],af key, .agg #[af r.c,af r.s,af r.mi,af r.ma,af r.t,af r.l]] w fun x w'=>aq w w'/\Gt w t ⟨key,r⟩ x w':=by
 obtain⟨W0,hW0⟩:=cd (((w.alloc (.cells #[ah ao t.nodes cap,af t.root] 27)).alloc (.cells #[af r.c,af r.s,af r.mi,af r.ma,af r.t,af r.l] 39)).alloc (.cells #[az 0 0,af 0] 27));have h0:=P0.start w ao t.nodes cap t.root r hW0;have uX:=ag h0;have HT:=ag (show ∀w',aq w w'->di w' (.agg #[ah ao t.nodes cap,af t.root]) t from fun w' hb=>⟨_,rfl,hn.below hb aO⟩);have jD:=ag (kQ (HT W0 h0.below));have HN:=ag (show ∀w',aq w w'->bn w' (ah ao t.nodes cap) t.nodes from fun w' hb=>hn.below hb aO);have z0:=h0.size;obtain⟨-,-,q0,q1,-,-,-,-,-,-,-,-,-⟩:=h0;clear hn;have hl:(look t.all key).c<=1073741824:=by
  have:=(dC hr hc).1.1;omega
 have HG:=ag (Je hf iy hk hl);have HM:=ag (Ll hf hr hl hm);obtain⟨RH,U6⟩:=cZ hf;obtain⟨l,h,hh,hfull⟩:=BM U6;obtain⟨t1,more,key',t2,h2,l2,p1,p2,p3,p4,p5,p6⟩:=QM (e:=⟨key,r⟩) hfull hh RH ⟨hc,hr,iy,hk⟩ (cP U6).cp hs;have p7:=Sm hfull p4 RH p6;have VR:=ag (aJ p1 (aJ p2 (aJ p3 (aJ p4 (aJ p5 (aJ p6 p7))))));have HC:=ag (aJ hc hr);clear hc hr hl hm hs p1 p2 p3 p4 p5 p6 p7 hfull U6;go_enter Tryz.func70,Tryz.ntmps70;go_upto_region 1 with (fail);rw [<-hW0];clear hW0;obtain⟨hc,hr⟩:=HC.out;have b1:¬key<0:=ai;have b2:¬1099511627776<=key:=ai;have b3:(r.c == 0)=false:=(by simp [hc]);have hd:=aJ b1 (aJ b2 b3);clear hd;obtain⟨L,hL⟩:=bG (look t.all key);rw [hL]at HG HM;clear hL;rw [hf]at jD;clear hf;go_upto_region 10 with (first|(go_at_call 107;(with_reducible refine jD.out.mono ?_);rintro e w1 ⟨rfl,hb1⟩;have hp1:=uX.out.later hb1 z0;have iN:=ag hp1;have z1:=hp1.size;obtain⟨-,-,Kk,q1',r0,r1,r2,r3,r4,r5,c0,c1,cf⟩:=hp1;clear hb1 q0 q1)|(go_at_call 31;(with_reducible refine(lX (r:=r) (aW _ w1)).mono ?_);rw [hr];rintro e w2 ⟨rfl,hb2⟩;have hp2:=iN.out.later hb2 z1;have qC:=ag hp2;have z2:=hp2.size;clear r0 r1 r2 r3 r4 r5 c0 c1 cf Kk q1';obtain⟨-,-,q0,q1,r0,r1,r2,r3,r4,r5,c0,c1,cf⟩:=hp2;clear hb2)|(go_at_call 108;(with_reducible refine(F7 (key:=key) (HT.out w2 qC.out.below)).mono ?_);rw [HG.out];rintro e w3 ⟨rfl,hb3⟩;have Kl:=qC.out.later hb3 z2;have zm:=ag Kl;have z3:=Kl.size;clear r0 r1 r2 r3 r4 r5 c0 c1 cf q0 q1;obtain⟨-,-,q0,q1,r0,r1,r2,r3,r4,r5,c0,c1,cf⟩:=Kl;clear hb3));obtain⟨W3,hW3⟩:=cd (w3.alloc (.cells #[af L.c,af L.s,af L.mi,af L.ma,af L.t,af L.l] 39));have hb3:aq w3 W3:=by rw [hW3];exact aj
 have l3:W3.heap[w3.heap.size]?=some (.cells #[af L.c,af L.s,af L.mi,af L.ma,af L.t,af L.l] 39):=by rw [hW3];exact au _ _ rfl
 have Z3:W3=w3.heap.size+1:=by rw [hW3];simp
 have Xf:=ag (zm.later hb3 z3);rw [<-hW3];clear r0 r1 r2 r3 r4 r5 c0 c1 cf q0 q1 hW3 hb3;obtain⟨-,-,q0,q1,r0,r1,r2,r3,r4,r5,c0,c1,cf⟩:=Xf.out;obtain⟨m0,m1,m2,m3,m4,m5⟩:(W3,w3.heap.size,0,L.c)/\(W3,w3.heap.size,1,L.s)/\(W3,w3.heap.size,2,L.mi)/\(W3,w3.heap.size,3,L.ma)/\(W3,w3.heap.size,4,L.t)/\(W3,w3.heap.size,5,L.l):=by simp [World.cell?,l3]
 clear l3;obtain⟨J,hJ⟩:=bG (L.join r);rw [hJ]at HM;clear hJ;go_upto_region 13 with (first|(go_at_call 15;(with_reducible refine(lT L r W3).mono ?_);rw [HM];rintro e w4 ⟨rfl,hb4⟩));obtain⟨W4,yH⟩:=cd (w4.alloc (.cells #[af J.c,af J.s,af J.mi,af J.ma,af J.t,af J.l] 39));have R8:aq W3 W4:=by rw [yH];exact aF hb4 ((aW _ _).alloc aO _) hb4.size
 have zz4:W4=w4.heap.size+1:=by rw [yH];simp
 have z4:w+3<=W4.heap.size:=by have:=R8.size;omega
 have ZE:=ag (Xf.later R8 ai);rw [<-yH];clear r0 r1 r2 r3 r4 r5 c0 c1 cf q0 q1 yH hb4 m0 m1 m2 m3 m4 m5;obtain⟨-,-,q0,q1,r0,r1,r2,r3,r4,r5,c0,c1,cf⟩:=ZE.out;have Uj:=ag (FC (HN W4 ZE.below) ⟨t.root,rfl⟩);go_upto_region 16 with ((go_at_call 42;(with_reducible refine Uj.out.mono ?_);rintro e w5 ⟨nv5,rs5,rfl,cy,wH⟩;obtain⟨go,gc,rfl⟩:=aU wH.row));obtain⟨W5,mD⟩:=cd (w5.alloc (.cells #[ah go rs5 gc,af t.root,af 0] 165));have lI:aq W4 W5:=by rw [mD];exact aF cy ((aW _ _).alloc aO _) cy.size
 have DV:=ag (oJ.bd (t:=t) (wH.mono (show W4<=W4.heap.size+2 by omega)) cy.size mD);have Qi:=ag (ZE.later lI ai);have zz5:W5=w5.heap.size+1:=by rw [mD];simp
 have GF:=ag lI;have s5:=cy.size;rw [<-mD];clear r0 r1 r2 r3 r4 r5 c0 c1 cf q0 q1 mD cy lI wH;obtain⟨-,-,q0,q1,r0,r1,r2,r3,r4,r5,c0,c1,cf⟩:=Qi.out;have PZ:=ag (Ng 13 DV VR.1);go_upto_region 17 with ((go_at_call 109;(with_reducible refine PZ.out.mono ?_);rintro e w6 ⟨rfl,hp6⟩));obtain⟨nv6,sX,hB6,hS6⟩:=hp6;have ji:aq W4 w6:=aA.below hS6.turn GF ai fun i hi=>(DV.lt i hi).1;have cb:w6.cell? (w5,2)=some (af 0):=by simp [World.cell?,hB6.box]
 have pM:=ag (aJ hB6 ji);clear r0 r1 r2 r3 r4 r5 c0 c1 cf q0 q1 hB6 hS6 ji;go_upto_if 86 with (fail);clear cb;go_cut [] (fun wx=>∃nv7 Z6,Hid (Bd W4 wx w5 nv7 Z6 t2/\aq W4 wx))
 case first=>
  obtain⟨-,hroot,ht2,-⟩:=VR.out;by_cases hm0:0<=more
  ·rw [aw hm0]at ht2;subst ht2;obtain⟨NT,c6,hv6⟩:=aU pM.1.row;subst hv6;obtain⟨c0,cr⟩:w6.cell? (w5,0)=some (ah NT sX c6)/\(w6,w5.heap.size,1,t.root):=by rw [<-hroot];simp [World.cell?,pM.out.1.box]
   have hbl:=(pM.1.lt _ (.inl rfl)).2;have Ve:=pM.1.oN;have F5:=pM.1.box;have jO:=ag fun(W:World) (hT:aA (fun b=>(ah NT sX c6).ownBlock=some b) w6 W)=>(⟨(hT.cell hbl Ve 0).trans c0,(hT.cell hbl Ve 1).trans cr⟩:W.cell? (w5,0)=some (ah NT sX c6)/\(W,w5.heap.size,1,t.root));have MR:=ag fun(W:World) (hT:aA (fun b=>(ah NT sX c6).ownBlock=some b) w6 W)=>(fun o=>(hT.frozen hbl Ve o).trans (by simp [World.frozen?,F5]):∀o,W.frozen? ⟨w5.heap.size,o,none⟩=false);have WG:sX=t1.nodes.length:=pM.1.len;have abW:t1.nodes.length<=20000:=by have:=VR.2.2.2.2.2.2;simp [lW]at this;omega
   obtain⟨i0,z9,hi0,hz0,CI,CH,CG⟩:=qj;have T0:aA (fun b=>(ah NT sX c6).ownBlock=some b) w6 w6.drew:=(aA.refl _ _).drew;have Ud:=ag (aJ WG abW);have hlr:sX.length<=20000:=ai;have HRT:=ag hroot;clear c0 cr Ve F5 WG abW hroot;go_upto_region 20 with (fail);refine jR (tK.of [(0,1),(1,1),(2,1),(3,1),(4,1),(5,0),(6,1),(8,1),(9,1),(10,1),(11,1),(12,0),(13,1)] (.fork 7 14 (tK.of [(14,2),(15,1),(16,2),(17,2),(18,1),(19,1),(20,1),(21,3)] .nil) (tK.of [(7,2),(15,1),(16,2),(17,2),(18,1),(19,1),(20,1),(21,3)] .nil))) 21
    (fun W=>W.cell? (w5,0)=some (ah NT sX c6)/\(W,w5.heap.size,1,t.root)) cV cV (jO _ T0) ?_
   simp only [tK.of]
   (repeat first|refine gZ ?_|refine gY ?_)
   refine rZ rfl rfl rfl rfl (fun K hK=>?_) (fun K hK=>?_)
   ·go_simp;obtain⟨W7,pF⟩:=cd ((w6.alloc (.cells #[af key'] 3)).drew);have ow:aq w6 W7:=(by rw [pF];exact aj);have k7:W7.heap[w6.heap.size]?=some (.cells #[af key'] 3):=(by rw [pF];exact au _ _ rfl);have E0:W7=w6.heap.size+1:=(by rw [pF];simp);rw [<-pF];have T7:aA (fun b=>(ah NT sX c6).ownBlock=some b) w6 W7:=aA.of ow aO;refine hK _ _ (jO _ T7) ?_;clear hK K pF T0
    (repeat first|refine gZ ?_|refine gY ?_)
    refine gq rfl rfl (fun K hK=>?_);go_simp;obtain⟨W8,mq⟩:=cd (W7.alloc (.cells #[af t.root,af more] 3));have jf:aq W7 W8:=(by rw [mq];exact aj);have k8:W8.heap[W7.heap.size]?=some (.cells #[af t.root,af more] 3):=(by rw [mq];exact au _ _ rfl);have IV:W8=w6.heap.size+2:=(by rw [mq];simp [E0]);have k78:=(jf.block w6 ai).trans k7;rw [E0]at k8;rw [<-mq];have B8:aq w6 W8:=aF ow jf ow.size;have T8:aA (fun b=>(ah NT sX c6).ownBlock=some b) w6 W8:=aA.of B8 aO;refine hK _ _ (jO _ T8) ?_;clear hK K mq T7 ow jf k7 E0
    (repeat first|refine gZ ?_|refine gY ?_)
    refine gq rfl rfl (fun K hK=>?_);go_simp;obtain⟨W9,xF⟩:=cd (W8.alloc (.cells #[.bool false,az 0 0,ah w6 1 1,ah (some (w6,1,0)) 2 2,az 0 0] 125));have kS:aq W8 W9:=(by rw [xF];exact aj);have k9:W9.heap[W8.heap.size]?=some (.cells #[.bool false,az 0 0,ah w6 1 1,ah (some (w6,1,0)) 2 2,az 0 0] 125):=(by rw [xF];exact au _ _ rfl);have U3:W9=w6.heap.size+3:=(by rw [xF];simp [IV]);rw [IV]at k9;rw [<-xF];have B9:aq w6 W9:=aF B8 kS B8.size;have T9:aA (fun b=>(ah NT sX c6).ownBlock=some b) w6 W9:=aA.of B9 aO;have k89:=(kS.block (w6+1) ai).trans k8;have k79:=(kS.block w6 ai).trans k78;refine hK _ _ (jO _ T9) ?_;clear hK K xF T8 kS k8 k78 B8
    (repeat first|refine gZ ?_|refine gY ?_)
    have IZ:=(pM.1.below B9 aO).row;have hM9:W4<=w6.heap.size:=(by have:=pM.2.size;omega);refine gq rfl rfl (fun K hK=>?_);refine wp_append_lies _ (.tmp 92) (.tmp 103) 25 rfl W4.heap.size 125 i0 z9 5 104 Tryz.underlying25 hi0 hz0 CI CH CG bY _ sX.length _ rfl IZ ⟨w6.heap.size+2,0,none⟩ 1 1 (bS ⟨false, .slice none 0 0, .slice (some ⟨w6.heap.size,0,none⟩) 1 1, .slice (some ⟨w6.heap.size+1,0,none⟩) 2 2, .slice none 0 0⟩) rfl rfl (World.news_of_block k9) ?hone bY (by unfold maxLen;omega) ai ai W9.heap.size rfl ?_
    case hone=>
     intro u hu;simp only [bS,fy,List.not_mem_nil,or_false]at hu;rcases hu with rfl|rfl|rfl|rfl|rfl <;> rfl
    intro g cap' mE uF kH yD I5;have SX:aA (fun b=>(ah NT sX c6).ownBlock=some b) w6 mE:=T9.trans ⟨kH.os,kH.tape,kH.output,kH.size,fun b hb hne=>kH.block b hb fun e=>hne e.symm⟩;refine hK _ _ (jO _ SX) ?_;clear hK K;have Rp:=kH.size;have hin:∀b,w6.heap.size<=b->b<w6.heap.size+3->mE.heap[b]?=W9.heap[b]?:=fun b h1 h2=>kH.block b ai (fun e=>by have:=(pM.1.row.lt b e.symm).2;omega);have ki:=ag (pM.1.push (w1:=mE) (nz:=ah g (sX+1) cap') (r:=⟨false,az 0 0,ah w6 1 1,ah (some (w6,1,0)) 2 2,az 0 0⟩) (x:=⟨false,[],[key'],[t.root,more],[]⟩) SX uF (fun b hb=>by
      have hb:g=b:=dh hb;subst hb;rcases yD with e|e
      ·left;exact e
      ·right;omega) (by
      refine⟨gQ.of rfl (qR _ _ _ _) (yg (us:=[af key']) ai ((hin _ ai ai).trans k79) rfl bY) (yg (us:=[af t.root,af more]) ai ((hin _ ai ai).trans k89) rfl bY) (qR _ _ _ _),fun f b hb=>?_,fun f h b hb hb'=>?_⟩
      ·rcases mA f 4 with h4|h4
       ·rcases xg h4 with rfl|rfl|rfl|rfl
        ·cases hb
        ·have hb:w6=b:=dh hb;omega
        ·have hb:w6+1=b:=dh hb;omega
        ·cases hb
       ·rw [Raw.iH _ h4]at hb;cases hb
      ·rcases mA f 4 with h4|h4
       ·rcases mA h 4 with g4|g4
        ·rcases xg h4 with rfl|rfl|rfl|rfl <;> rcases xg g4 with rfl|rfl|rfl|rfl <;> first
          |rfl
          |(cases hb;done)
          |(cases hb';done)
          |(have hb:w6=b:=dh hb
            have hb':w6+1=b:=dh hb';omega)
          |(have hb:w6+1=b:=dh hb
            have hb':w6=b:=dh hb';omega)
        ·rw [Raw.iH _ g4]at hb';cases hb'
       ·rw [Raw.iH _ h4]at hb;cases hb) (fun f b hb e=>by
      have e:g=b:=dh e;have hgo:∀c,w6.heap.size<=c->c<w6.heap.size+3->g≠c:=fun c h1 h2 e=>by
       rcases yD with e'|e'
       ·have:=(pM.1.row.lt g e').2;omega
       ·omega
      rcases mA f 4 with h4|h4
      ·rcases xg h4 with rfl|rfl|rfl|rfl
       ·cases hb
       ·have hb:w6=b:=dh hb;exact hgo _ ai ai (e.trans hb.symm)
       ·have hb:w6+1=b:=dh hb;exact hgo _ ai ai (e.trans hb.symm)
       ·cases hb
      ·rw [Raw.iH _ h4]at hb;cases hb))
    have d1:mE.frozen? ⟨w5.heap.size,0,none⟩=false:=MR _ SX 0;obtain⟨d0,dr⟩:=jO _ SX;clear T9 SX IZ uF kH yD I5 hin k79 k89 k9 B9
    (repeat first|refine gZ ?_|refine gY ?_)
    refine jC rfl rfl (fun K hK=>?_);go_simp;refine hK _ _ ?_;clear hK K;refine kT ?_;have e0:(mE.setCell (w5,0) (ah g (sX+1) cap')).cell? (w5,0)=some (ah g (sX+1) cap'):=mU d0;have e1:(mE.setCell (w5,0) (ah g (sX+1) cap')).cell? (w5,1)=some (af t.root):=lY bY dr;have ef:∀o,(mE.setCell (w5,0) (ah g (sX+1) cap')).frozen? ⟨w5.heap.size,o,none⟩=false:=fun o=>by
     have hb:=ki.1.box;simp [World.frozen?,hb]
    generalize mE.setCell (w5,0) (ah g (sX+1) cap')=WA at ki e0 e1 ef ⊢;clear d0 dr d1;have hw0:IntKind.i64.wrap ((sX.length:Int)+1-1)=(sX.length:Int):=(by rw [bI _ ai];omega);go_wp2_with fail;go_meet;have hG:lW t1 more key'={ kN t1 ⟨false,[],[key'],[t.root,more],[]⟩with root:=(sX.length:Int) }:=(by unfold lW;rw [HRT,<-Ud.1];rfl);have hA:=ki.1.root (sX.length:Int);rw [<-hG]at hA;have hX:aq W4 WA:=aA.below ki.2.turn pM.2 (by have:=pM.2.size;omega) fun i hi=>(pM.1.lt i hi).1;exact⟨_,_,ag (aJ hA (hX.setCell (by show W4<=w5.heap.size;omega) _))⟩
   ·go_simp;obtain⟨W7,pF⟩:=cd ((w6.alloc (.cells #[af t.root,af more] 3)).drew);have ow:aq w6 W7:=(by rw [pF];exact aj);have k7:W7.heap[w6.heap.size]?=some (.cells #[af t.root,af more] 3):=(by rw [pF];exact au _ _ rfl);have E0:W7=w6.heap.size+1:=(by rw [pF];simp);rw [<-pF];have T7:aA (fun b=>(ah NT sX c6).ownBlock=some b) w6 W7:=aA.of ow aO;refine hK _ _ (jO _ T7) ?_;clear hK K pF T0
    (repeat first|refine gZ ?_|refine gY ?_)
    refine gq rfl rfl (fun K hK=>?_);go_simp;obtain⟨W8,mq⟩:=cd (W7.alloc (.cells #[af key'] 3));have jf:aq W7 W8:=(by rw [mq];exact aj);have k8:W8.heap[W7.heap.size]?=some (.cells #[af key'] 3):=(by rw [mq];exact au _ _ rfl);have IV:W8=w6.heap.size+2:=(by rw [mq];simp [E0]);have k78:=(jf.block w6 ai).trans k7;rw [E0]at k8;rw [<-mq];have B8:aq w6 W8:=aF ow jf ow.size;have T8:aA (fun b=>(ah NT sX c6).ownBlock=some b) w6 W8:=aA.of B8 aO;refine hK _ _ (jO _ T8) ?_;clear hK K mq T7 ow jf k7 E0
    (repeat first|refine gZ ?_|refine gY ?_)
    refine gq rfl rfl (fun K hK=>?_);go_simp;obtain⟨W9,xF⟩:=cd (W8.alloc (.cells #[.bool false,az 0 0,ah (some (w6,1,0)) 1 1,ah w6 2 2,az 0 0] 125));have kS:aq W8 W9:=(by rw [xF];exact aj);have k9:W9.heap[W8.heap.size]?=some (.cells #[.bool false,az 0 0,ah (some (w6,1,0)) 1 1,ah w6 2 2,az 0 0] 125):=(by rw [xF];exact au _ _ rfl);have U3:W9=w6.heap.size+3:=(by rw [xF];simp [IV]);rw [IV]at k9;rw [<-xF];have B9:aq w6 W9:=aF B8 kS B8.size;have T9:aA (fun b=>(ah NT sX c6).ownBlock=some b) w6 W9:=aA.of B9 aO;have k89:=(kS.block (w6+1) ai).trans k8;have k79:=(kS.block w6 ai).trans k78;refine hK _ _ (jO _ T9) ?_;clear hK K xF T8 kS k8 k78 B8
    (repeat first|refine gZ ?_|refine gY ?_)
    have IZ:=(pM.1.below B9 aO).row;have hM9:W4<=w6.heap.size:=(by have:=pM.2.size;omega);refine gq rfl rfl (fun K hK=>?_);refine wp_append_lies _ (.tmp 92) (.tmp 103) 25 rfl W4.heap.size 125 i0 z9 5 104 Tryz.underlying25 hi0 hz0 CI CH CG bY _ sX.length _ rfl IZ ⟨w6.heap.size+2,0,none⟩ 1 1 (bS ⟨false, .slice none 0 0, .slice (some ⟨w6.heap.size+1,0,none⟩) 1 1, .slice (some ⟨w6.heap.size,0,none⟩) 2 2, .slice none 0 0⟩) rfl rfl (World.news_of_block k9) ?hone bY (by unfold maxLen;omega) ai ai W9.heap.size rfl ?_
    case hone=>
     intro u hu;simp only [bS,fy,List.not_mem_nil,or_false]at hu;rcases hu with rfl|rfl|rfl|rfl|rfl <;> rfl
    intro g cap' mE uF kH yD I5;have SX:aA (fun b=>(ah NT sX c6).ownBlock=some b) w6 mE:=T9.trans ⟨kH.os,kH.tape,kH.output,kH.size,fun b hb hne=>kH.block b hb fun e=>hne e.symm⟩;refine hK _ _ (jO _ SX) ?_;clear hK K;have Rp:=kH.size;have hin:∀b,w6.heap.size<=b->b<w6.heap.size+3->mE.heap[b]?=W9.heap[b]?:=fun b h1 h2=>kH.block b ai (fun e=>by have:=(pM.1.row.lt b e.symm).2;omega);have ki:=ag (pM.1.push (w1:=mE) (nz:=ah g (sX+1) cap') (r:=⟨false,az 0 0,ah (some (w6,1,0)) 1 1,ah w6 2 2,az 0 0⟩) (x:=⟨false,[],[key'],[t.root,more],[]⟩) SX uF (fun b hb=>by
      have hb:g=b:=dh hb;subst hb;rcases yD with e|e
      ·left;exact e
      ·right;omega) (by
      refine⟨gQ.of rfl (qR _ _ _ _) (yg (us:=[af key']) ai ((hin _ ai ai).trans k89) rfl bY) (yg (us:=[af t.root,af more]) ai ((hin _ ai ai).trans k79) rfl bY) (qR _ _ _ _),fun f b hb=>?_,fun f h b hb hb'=>?_⟩
      ·rcases mA f 4 with h4|h4
       ·rcases xg h4 with rfl|rfl|rfl|rfl
        ·cases hb
        ·have hb:w6+1=b:=dh hb;omega
        ·have hb:w6=b:=dh hb;omega
        ·cases hb
       ·rw [Raw.iH _ h4]at hb;cases hb
      ·rcases mA f 4 with h4|h4
       ·rcases mA h 4 with g4|g4
        ·rcases xg h4 with rfl|rfl|rfl|rfl <;> rcases xg g4 with rfl|rfl|rfl|rfl <;> first
          |rfl
          |(cases hb;done)
          |(cases hb';done)
          |(have hb:w6+1=b:=dh hb
            have hb':w6=b:=dh hb';omega)
          |(have hb:w6=b:=dh hb
            have hb':w6+1=b:=dh hb';omega)
        ·rw [Raw.iH _ g4]at hb';cases hb'
       ·rw [Raw.iH _ h4]at hb;cases hb) (fun f b hb e=>by
      have e:g=b:=dh e;have hgo:∀c,w6.heap.size<=c->c<w6.heap.size+3->g≠c:=fun c h1 h2 e=>by
       rcases yD with e'|e'
       ·have:=(pM.1.row.lt g e').2;omega
       ·omega
      rcases mA f 4 with h4|h4
      ·rcases xg h4 with rfl|rfl|rfl|rfl
       ·cases hb
       ·have hb:w6+1=b:=dh hb;exact hgo _ ai ai (e.trans hb.symm)
       ·have hb:w6=b:=dh hb;exact hgo _ ai ai (e.trans hb.symm)
       ·cases hb
      ·rw [Raw.iH _ h4]at hb;cases hb))
    have d1:mE.frozen? ⟨w5.heap.size,0,none⟩=false:=MR _ SX 0;obtain⟨d0,dr⟩:=jO _ SX;clear T9 SX IZ uF kH yD I5 hin k79 k89 k9 B9
    (repeat first|refine gZ ?_|refine gY ?_)
    refine jC rfl rfl (fun K hK=>?_);go_simp;refine hK _ _ ?_;clear hK K;refine kT ?_;have e0:(mE.setCell (w5,0) (ah g (sX+1) cap')).cell? (w5,0)=some (ah g (sX+1) cap'):=mU d0;have e1:(mE.setCell (w5,0) (ah g (sX+1) cap')).cell? (w5,1)=some (af t.root):=lY bY dr;have ef:∀o,(mE.setCell (w5,0) (ah g (sX+1) cap')).frozen? ⟨w5.heap.size,o,none⟩=false:=fun o=>by
     have hb:=ki.1.box;simp [World.frozen?,hb]
    generalize mE.setCell (w5,0) (ah g (sX+1) cap')=WA at ki e0 e1 ef ⊢;clear d0 dr d1;have hw0:IntKind.i64.wrap ((sX.length:Int)+1-1)=(sX.length:Int):=(by rw [bI _ ai];omega);go_wp2_with fail;go_meet;have hG:lW t1 more key'={ kN t1 ⟨false,[],[key'],[t.root,more],[]⟩with root:=(sX.length:Int) }:=(by unfold lW;rw [HRT,<-Ud.1];rfl);have hA:=ki.1.root (sX.length:Int);rw [<-hG]at hA;have hX:aq W4 WA:=aA.below ki.2.turn pM.2 (by have:=pM.2.size;omega) fun i hi=>(pM.1.lt i hi).1;exact⟨_,_,ag (aJ hA (hX.setCell (by show W4<=w5.heap.size;omega) _))⟩
  ·rw [ar hm0]at ht2;subst ht2;go_wp2_with fail;go_meet;exact⟨nv6,sX,pM⟩
 case rest=>
  obtain⟨nv7,Z6,zn⟩:=hcut;obtain⟨-,-,-,FX,ac8,abr,WH⟩:=VR.out;obtain⟨ao7,c7,hv7⟩:=aU zn.out.1.row;subst hv7;have TZ:=ag (ZE.later zn.out.2 ai);have VX:=ag (kQ (zn.out.1.Qt FX ai));obtain⟨d0,d1⟩:wc.cell? (w5,0)=some (ah ao7 Z6 c7)/\(wc,w5.heap.size,1,t2.root):=by simp [World.cell?,zn.out.1.box]
  have Vo:=(zn.out.1.lt _ (.inl rfl)).2;have TU:=ag (show ∀x wf,((aC t2=0/\∃v2,x=Ending.returned (.tuple #[v2,af 0])/\∀w'',aQ w wf w''->di w'' v2 t2)\/(aC t2≠0/\x = .returned (.tuple #[nY,af 1])))->Gt w t ⟨key,r⟩ x wf from fun x wf hx=>⟨t2,h2,l2,FX,ac8,abr,hx⟩);have MK:=ag (show ∀wf,(∀b,W4.heap.size<=b->b<wc.heap.size->wf.heap[b]?=wc.heap[b]?)->di wf (.agg #[ah ao7 Z6 c7,af t2.root]) t2 from fun wf hw=>(zn.out.1.world fun b hb=>hw b (zn.out.1.lt b hb).1 (zn.out.1.lt b hb).2).Qt FX ai);clear FX ac8 abr;by_cases hf2:aC t2=0
  ·rw [hf2]at VX;have Ui:=ag hf2;clear hf2;go_wp2_with ((go_at_call 107;(with_reducible refine VX.out.mono ?_);rintro e w8 ⟨rfl,jf⟩;have e0:=(jf.cell (p:=(w5,0)) Vo).trans d0;have e1:=(jf.cell (p:=(w5,1)) Vo).trans d1;have HP8:=ag (TZ.later jf TZ.size);have BG:=ag jf;obtain⟨-,-,-,-,-,-,-,-,-,-,c0,c1,cf⟩:=HP8.out;clear jf d0 d1));have cT:=HP8.below;exact bW (v:= .tuple #[.agg #[ah ao7 Z6 c7,af t2.root],af 0]) (by simp [results,Tryz.results70,go_sem, *]) rfl ⟨aj,TU _ _ (.inl ⟨Ui,_,rfl,fun w'' hk=>MK _ fun b hb hlt=>(hk.block b ai (by have:=BG.size;simp only [aG];omega)).trans (((cH _ ⟨w.heap.size+2,_,none⟩ b _ (by show b≠w.heap.size+2;omega)).trans (cH _ ⟨w.heap.size+2,_,none⟩ b _ (by show b≠w.heap.size+2;omega))).trans (BG.block b hlt))⟩)⟩
  ·have Ui:=ag hf2;have d2:(aC t2 != 0)=true:=by simp [hf2]
   obtain⟨F,hF⟩:=bG (aC t2);rw [hF]at VX d2;clear hf2 hF;go_wp2_with ((go_at_call 107;(with_reducible refine VX.out.mono ?_);rintro e w8 ⟨rfl,jf⟩;have e0:=(jf.cell (p:=(w5,0)) Vo).trans d0;have e1:=(jf.cell (p:=(w5,1)) Vo).trans d1;have HP8:=ag (TZ.later jf TZ.size);obtain⟨-,-,-,-,-,-,-,-,-,-,c0,c1,cf⟩:=HP8.out;clear jf d0 d1));have cT:=HP8.below;exact bW (v:= .tuple #[nY,af 1]) (by simp [results,Tryz.results70,go_sem, *]) rfl ⟨aj,TU _ _ (.inr ⟨Ui,rfl⟩)⟩
theorem G6 {v:Value} (h:di w v t) (hs:kL t key r=0->Small (⟨key,r⟩::t.all)) :
  Calls Tryz.prog 70 #[v,af key, .agg #[af r.c,af r.s,af r.mi,af r.ma,af r.t,af r.l]] w fun x w'=>aq w w' /\
   ((kL t key r≠0/\x = .returned (.tuple #[nY,af (kL t key r)]))\/(kL t key r=0/\Gt w t ⟨key,r⟩ x w')):=by
 obtain⟨nv,rfl,hn⟩:=h;obtain⟨⟨ao,cap,rfl⟩,-⟩:=hn.len;have er:∀{k:Int},kL t key r=k->k≠0->Calls Tryz.prog 70 #[.agg #[ah ao t.nodes cap,af t.root],af key, .agg #[af r.c,af r.s,af r.mi,af r.ma,af r.t,af r.l]] w (fun x w'=>aq w w'/\x = .returned (.tuple #[nY,af k])) ->
   Calls Tryz.prog 70 #[.agg #[ah ao t.nodes cap,af t.root],af key, .agg #[af r.c,af r.s,af r.mi,af r.ma,af r.t,af r.l]] w (fun x w'=>aq w w'/\((kL t key r≠0/\x = .returned (.tuple #[nY,af (kL t key r)]))\/(kL t key r=0/\Gt w t ⟨key,r⟩ x w'))):=fun {k} e hk hc=>by
  subst e;exact hc.mono fun x w' ⟨h1,h2⟩=>⟨h1, .inl ⟨hk,h2⟩⟩
 by_cases hf:aC t=0
 ·by_cases iy:0<=key
  ·by_cases hk:key<1099511627776
   ·by_cases hc:r.c=0
    ·exact er (by unfold kL;rw [ar (by simp [hf]),aw ai]) bY (sZ hn (.inr (.inr (.inr (.inl ⟨hf,iy,hk,hc,rfl⟩)))))
    ·by_cases hr:av r=0
     ·by_cases hm:(look t.all key).c+r.c<=1073741824
      ·have hE:kL t key r=0:=(by unfold kL;rw [ar (by simp [hf]),ar ai,ar (by simp [hr]),aw hm]);exact(QL hn hf iy hk hc hr hm (hs hE)).mono fun x w' ⟨h1,h2⟩=>⟨h1, .inr ⟨hE,h2⟩⟩
      ·have hE:kL t key r=1:=(by unfold kL;rw [ar (by simp [hf]),ar ai,ar (by simp [hr]),ar hm]);by_cases hl:(look t.all key).c<=1073741824
       ·exact er hE bY (sZ hn (.inr (.inr (.inr (.inr (.inr (.inr ⟨hf,iy,hk,hc,hr,hl,ai,rfl⟩)))))))
       ·exact er hE bY (sZ hn (.inr (.inr (.inr (.inr (.inr (.inl ⟨hf,iy,hk,hc,hr,ai,rfl⟩)))))))
     ·exact er (by unfold kL;rw [ar (by simp [hf]),ar ai,aw hr]) hr (sZ hn (.inr (.inr (.inr (.inr (.inl ⟨hf,iy,hk,hc,hr,rfl⟩))))))
   ·exact er (by unfold kL;rw [ar (by simp [hf]),aw ai]) bY (sZ hn (.inr (.inr (.inl ⟨hf,iy,ai,rfl⟩))))
  ·exact er (by unfold kL;rw [ar (by simp [hf]),aw ai]) bY (sZ hn (.inr (.inl ⟨hf,ai,rfl⟩)))
 ·exact er (by unfold kL;rw [aw hf]) hf (sZ hn (.inl ⟨hf,rfl⟩))
end
def ru (B:Nat) (t:Tr) (key:Int) (r:ax) (w':World) (so:Option Addr) (n c:Nat) (rt E2:Int):Prop:=
 (kL t key r≠0/\E2=kL t key r)\/(kL t key r=0/\∃t2 h2 l2,Full t2 h2 l2/\jv t2.all (⟨key,r⟩::t.all)/\qE t2<=qE t+1 /\
  ((E2=0/\aC t2=0/\rt=t2.root/\∀w'',aQ B w' w''->di w'' (.agg #[ah so n c,af rt]) t2)\/(E2=1/\aC t2≠0)))
theorem xK {v:Value} {t:Tr} {key:Int} {r:ax} {w:World} (h:di w v t) (hs:kL t key r=0->Small (⟨key,r⟩::t.all)) :
  Calls Tryz.prog 70 #[v,af key, .agg #[af r.c,af r.s,af r.mi,af r.ma,af r.t,af r.l]] w fun x w'=>aq w w' /\
   ∃so n c rt E2,x = .returned (.tuple #[.agg #[ah so n c,af rt],af E2])/\ru w t key r w' so n c rt E2:=by
 refine(G6 h hs).mono ?_;rintro x w' ⟨hb,⟨h1,rfl⟩|⟨h1,t2,h2,l2,g1,g2,g3,⟨g4,v2,rfl,g5⟩|⟨g4,rfl⟩⟩⟩
 ·exact⟨hb,none,0,0,0,_,rfl, .inl ⟨h1,rfl⟩⟩
 ·obtain⟨nv,rfl,hn⟩:=g5 w' (aQ.refl _ _);obtain⟨⟨ao,cap,rfl⟩,-⟩:=hn.len;exact⟨hb,_,_,_,_,_,rfl, .inr ⟨h1,t2,h2,l2,g1,g2,g3, .inl ⟨rfl,g4,rfl,g5⟩⟩⟩
 ·exact⟨hb,none,0,0,0,1,rfl, .inr ⟨h1,t2,h2,l2,g1,g2,g3, .inr ⟨rfl,g4⟩⟩⟩
theorem Full.grown {t2:Tr} {h2:Nat} {l2:List Int} (hf:Full t2 h2 l2) (h:aC t2≠0):3002<qE t2:=Nat.lt_of_not_le fun hw=>h (hf.fault hw)
end Go.Proofs.YtmljjfhgciaceaaGreatDoor
