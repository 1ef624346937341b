/- Texts of mine that come as one: CopyB PutP Put PutForm. -/
import Derived.Test.YtmljjfhgciaceaaDoorHd
import Derived.Test.YtmljjfhgciaceaaDoorDG
import Derived.Test.YtmljjfhgciaceaaDoorSO
import Derived.Test.YtmljjfhgciaceaaDoorFG
import Derived.Test.YtmljjfhgciaceaaDoorPU
import Derived.Test.YtmljjfhgciaceaaDoorNC
import Derived.Test.YtmljjfhgciaceaaDoorGT
import Derived.Test.YtmljjfhgciaceaaDoorKG
import Derived.Test.YtmljjfhgciaceaaDoorSR
import Derived.Test.YtmljjfhgciaceaaDoorSP
namespace Go.Proofs.YtmljjfhgciaceaaDoor
open Go.RowKit
section
set_option maxRecDepth 100000
set_option maxHeartbeats 4000000
variable {r0:Int} {xs:List Nd} {rs:List Raw} {k:Nat} {w wr:World}
structure mo (M:Nat) (w:World) (nv:Value) (rs:List Raw) (xs:List Nd):Prop where
 row:w.ownsRow M 119 5 nv rs.length (rs.flatMap cL)
 len:rs.length=xs.length
 BR:∀(i:Nat) r x,rs[i]?=some r->xs[i]?=some x->gV M w r x
 apart:∀(i j:Nat) r s f g b,rs[i]?=some r->rs[j]?=some s->(r.lS f).ownBlock=some b->(s.lS g).ownBlock=some b->i=j/\f=g
 off:∀(i:Nat) r f b,rs[i]?=some r->(r.lS f).ownBlock=some b->nv.ownBlock≠some b
structure OwnAt (w:World) (rs:List Raw) (xs:List Nd) (gv:Value) (r0:Int) (k:Nat) (wr:World):Prop where
 own:∃rs':List Raw,wr.ownsRow (w.heap.size+2) 119 5 gv rs.length (rs'.flatMap cL)/\rs'.length=rs.length/\(∀(i:Nat) r x,i<k->rs'[i]?=some r->xs[i]?=some x->gV (w.heap.size+2) wr r x) /\
  (∀(i j:Nat) r s f h b,i<k->j<k->rs'[i]?=some r->rs'[j]?=some s->(r.lS f).ownBlock=some b->(s.lS h).ownBlock=some b->i=j/\f=h)/\(∀(i:Nat) r f b,i<k->rs'[i]?=some r->(r.lS f).ownBlock=some b->gv.ownBlock≠some b)/\∀i:Nat,k<=i->rs'[i]?=rs[i]?
 below:ah w wr
 size:w.heap.size+2<=wr.heap.size
 c0:wr.cell? ⟨w.heap.size,0,none⟩=some gv
 c1:wr.cell? ⟨w.heap.size,1,none⟩=some (.int .i64 r0)
 cf:∀o,wr.frozen? ⟨w.heap.size,o,none⟩=false
 d0:∃u,wr.cell? ⟨w.heap.size+1,0,none⟩=some u
 d1:∃u,wr.cell? ⟨w.heap.size+1,1,none⟩=some u
 df:∀o,wr.frozen? ⟨w.heap.size+1,o,none⟩=false
theorem LP {wl:World} {rs':List Raw} {g gc:Nat} {xk:Nd} (rn:Raw)
  (ho:wr.ownsRow (w.heap.size+2) 119 5 (.slice (some ⟨g,0,none⟩) rs.length gc) rs.length (rs'.flatMap cL)) (hl':rs'.length=rs.length)
  (hdone:∀(i:Nat) r x,i<k->rs'[i]?=some r->xs[i]?=some x->gV (w.heap.size+2) wr r x)
  (hapart:∀(i j:Nat) r s f h b,i<k->j<k->rs'[i]?=some r->rs'[j]?=some s->(r.lS f).ownBlock=some b->(s.lS h).ownBlock=some b->i=j/\f=h)
  (hoff:∀(i:Nat) r f b,i<k->rs'[i]?=some r->(r.lS f).ownBlock=some b->(Value.slice (some ⟨g,0,none⟩) rs.length gc).ownBlock≠some b)
  (hrest:∀i:Nat,k<=i->rs'[i]?=rs[i]?) (hlx:rs.length=xs.length) (hg1:w.heap.size+2<=g) (hg2:g<wr.heap.size) (hlt:k<rs.length) (hxk:xs[k]?=some xk)
  (di:ah w wr) (_hsz:w.heap.size+2<=wr.heap.size) (B:ah wr wl)
  (c0:wr.cell? ⟨w.heap.size,0,none⟩=some (.slice (some ⟨g,0,none⟩) rs.length gc)) (c1:wr.cell? ⟨w.heap.size,1,none⟩=some (.int .i64 r0)) (cf:∀o,wr.frozen? ⟨w.heap.size,o,none⟩=false)
  {u0 u1:Value} (d0:wr.cell? ⟨w.heap.size+1,0,none⟩=some u0) (d1:wr.cell? ⟨w.heap.size+1,1,none⟩=some u1) (df:∀o,wr.frozen? ⟨w.heap.size+1,o,none⟩=false)
  (HN:E5 (w.heap.size+2) wr.heap.size wl rn xk) :
  OwnAt w rs xs (.slice (some ⟨g,0,none⟩) rs.length gc) r0 (k+1) (((((wl.setCell ⟨g,k*5,none⟩ (.bool rn.leaf)).setCell ⟨g,k*5+1,none⟩ rn.ev).setCell ⟨g,k*5+2,none⟩ rn.kv).setCell ⟨g,k*5+3,none⟩ rn.dv).setCell ⟨g,k*5+4,none⟩ rn.bv):=by
 obtain⟨wx,hwx⟩:=bQ ((((((wl.setCell ⟨g,k*5,none⟩ (.bool rn.leaf)).setCell ⟨g,k*5+1,none⟩ rn.ev).setCell ⟨g,k*5+2,none⟩ rn.kv).setCell ⟨g,k*5+3,none⟩ rn.dv).setCell ⟨g,k*5+4,none⟩ rn.bv))
 have hown:wx.ownsRow (w.heap.size+2) 119 5 (.slice (some ⟨g,0,none⟩) rs.length gc) rs.length ((rs'.set k rn).flatMap cL):=by
  rw [hwx];exact pP (gp ho B) hlt hl'.symm
 have hblk:∀b,b≠g->wx.heap[b]?=wl.heap[b]?:=fun b hb=>by rw [hwx];exact lF hb
 have KU:ah w wx:=by
  rw [hwx]
  have h0:ah w wl:=Below.trans' di B di.size
  exact((((h0.setCell (by simp <;> omega) _).setCell (by simp <;> omega) _).setCell (by simp <;> omega) _).setCell (by simp <;> omega) _).setCell (by simp <;> omega) _
 have hold:∀b,b<wr.heap.size->b≠g->wx.heap[b]?=wr.heap[b]?:=fun b hb hg=>(hblk b hg).trans (B.block b hb)
 have hcell:∀b o,b<w.heap.size+2->wx.cell? ⟨b,o,none⟩=wr.cell? ⟨b,o,none⟩:=fun b o hb=>World.cell?_of_block (hold b af af)
 have hfro:∀b o,b<w.heap.size+2->wx.frozen? ⟨b,o,none⟩=wr.frozen? ⟨b,o,none⟩:=fun b o hb=>World.frozen?_of_block (hold b af af)
 have hsx:wl.heap.size=wx.heap.size:=by rw [hwx];simp
 have eD:∀(i:Nat) s,i<k+1->(rs'.set k rn)[i]?=some s->(i=k/\s=rn)\/(i<k/\rs'[i]?=some s):=fun i s hi hs=>by
  by_cases hik:i=k
  ·subst hik
   rw [List.getElem?_set_self af]at hs
   exact .inl ⟨rfl,(dw hs).symm⟩
  ·rw [Az (Ne.symm hik)]at hs;exact .inr ⟨af,hs⟩
 have jH:∀(i:Nat) s f b,i<k->rs'[i]?=some s->(s.lS f).ownBlock=some b->b<wr.heap.size/\b≠g:=fun i s f b hi hs hb=>by
  have kS:i<xs.length:=af
  refine⟨(((hdone i s _ hi hs (oL kS)).row f).lt b hb).2,fun e=>hoff i s f b hi hs hb (by rw [e];rfl)⟩
 rw [<-hwx]
 refine⟨⟨rs'.set k rn,hown,by simp [hl'],fun i r x hi hr hx=>?_,fun i j r s f h b hi hj hr hs hb hb'=>?_,fun i r f b hi hr hb=>?_,fun i hi=>?_⟩,KU,?_,?_,?_,fun o=>?_,⟨u0,?_⟩,⟨u1,?_⟩,fun o=>?_⟩
 ·rcases eD i r hi hr with ⟨rfl,rfl⟩|⟨hik,hr⟩
  ·rw [hxk]at hx
   injection hx with hx;subst hx
   exact HN.own.block fun f b hb=>hblk b (by have:=HN.new f b hb;omega)
  ·exact(hdone i r x hik hr hx).block fun f b hb=>by
    obtain⟨q1,q2⟩:=jH i r f b hik hr hb
    exact hold b q1 q2
 ·rcases eD i r hi hr with ⟨e1,e2⟩|⟨hik,hr2⟩
  ·rcases eD j s hj hs with ⟨e3,e4⟩|⟨hjk,hs2⟩
   ·subst e2 e4
    exact⟨e1.trans e3.symm,HN.apart f h b hb hb'⟩
   ·subst e2
    have:=(jH j s h b hjk hs2 hb').1;have:=(HN.new f b hb).1;omega
  ·rcases eD j s hj hs with ⟨e3,e4⟩|⟨hjk,hs2⟩
   ·subst e4
    have:=(jH i r f b hik hr2 hb).1;have:=(HN.new h b hb').1;omega
   ·exact hapart i j r s f h b hik hjk hr2 hs2 hb hb'
 ·rcases eD i r hi hr with ⟨e1,e2⟩|⟨hik,hr2⟩
  ·subst e2
   intro e
   have e:g=b:=dw e
   have:=(HN.new f b hb).1;omega
  ·exact hoff i r f b hik hr2 hb
 ·rw [Az af];exact hrest i af
 ·have:=B.size;omega
 ·rw [hcell _ _ af];exact c0
 ·rw [hcell _ _ af];exact c1
 ·rw [hfro _ _ af];exact cf o
 ·rw [hcell _ _ af];exact d0
 ·rw [hcell _ _ af];exact d1
 ·rw [hfro _ _ af];exact df o
theorem Pn {gv:Value} (h:OwnAt w rs xs gv r0 k wr) (hk:rs.length<=k) (hl:rs.length=xs.length) (v0 v1:Value) :
  ∃rs',ah w ((wr.setCell ⟨w.heap.size+1,0,none⟩ v0).setCell ⟨w.heap.size+1,1,none⟩ v1)/\mo (w.heap.size+2) ((wr.setCell ⟨w.heap.size+1,0,none⟩ v0).setCell ⟨w.heap.size+1,1,none⟩ v1) gv rs' xs:=by
 obtain⟨⟨rs',ho,hl',hdone,hapart,hoff,hrest⟩,di,hsz,-,-,-,-,-,-⟩:=h
 have hb:∀b,w.heap.size+2<=b->((wr.setCell ⟨w.heap.size+1,0,none⟩ v0).setCell ⟨w.heap.size+1,1,none⟩ v1).heap[b]?=wr.heap[b]?:=fun b hb=>
  (heap_setCell_other _ ⟨w.heap.size+1,_,none⟩ b v1 (by show b≠w.heap.size+1;omega)).trans (heap_setCell_other _ ⟨w.heap.size+1,_,none⟩ b v0 (by show b≠w.heap.size+1;omega))
 refine⟨rs',(di.setCell (by simp <;> omega) _).setCell (by simp <;> omega) _,?_,af,fun i r x hr hx=>?_,fun i j r s f h b hr hs=>hapart i j r s f h b (by have:=(gH.1 hr).1;omega) (by have:=(gH.1 hs).1;omega) hr hs,
  fun i r f b hr=>hoff i r f b (by have:=(gH.1 hr).1;omega) hr⟩
 ·rw [hl'];exact bX ho fun g hg=>hb g (ho.lt g hg).1
 ·have hd:=hdone i r x (by have:=(gH.1 hr).1;omega) hr hx
  exact hd.block fun f g hg=>hb g ((hd.row f).lt g hg).1
theorem BG {nv root:Value} (h:bu w nv xs) (hroot:∃r,root = .int .i64 r) :
  Calls Tryd.prog 72 #[.agg #[nv,root]] w fun e w'=>∃kX rs',e = .returned (.agg #[kX,root])/\ah w w'/\mo (w.heap.size+2) w' kX rs' xs:=by
 obtain⟨r0,rfl⟩:=hroot
 obtain⟨rs,hs,hr⟩:=id h
 have hmax:rs.length<=9223372036854775806:=by obtain⟨_,_,_,_,_,h,_⟩:=hs;omega
 obtain⟨ao,cap,rfl⟩:=hs.isSlice
 obtain⟨W0,hW0⟩:=bQ ((w.alloc (.cells #[.slice ao rs.length cap, .int .i64 r0] 32)).alloc (.cells #[.slice none 0 0, .int .i64 0] 32))
 have hb0:ah w W0:=by rw [hW0];exact((aJ _ w).alloc aI _).alloc bq _
 have HC:=hdd (uS (hs.below hb0 aI) hr.one)
 rw [hW0]at HC
 clear h
 go_enter Tryd.func72,Tryd.ntmps72
 go_wp2_with (go_at_call 91;refine HC.out.mono ?_;rintro e w1 ⟨gv,rfl,hown,hb1⟩;obtain⟨go,gc,rfl⟩:=dI hown;obtain⟨p1,p2,p3⟩:=nr hb1 (B:=w.heap.size) (by simp <;> omega);obtain⟨q1,q2,q3⟩:=nr hb1 (B:=w.heap.size+1) bq)
 have TM:w.heap.size+2<=w1.heap.size:=by have:=hb1.size;simp at this;omega
 go_loopg [12] rs.length (fun g c wr=>∃k,k<=rs.length/\g=rs.length-k/\c = .int .i64 k/\OwnAt w rs xs (.slice go rs.length gc) r0 k wr)
 case atStart=>
  refine⟨0,iN _,rfl,rfl,?_⟩
  refine⟨⟨rs,oz (by simpa using hown) af _,rfl,bq,bq,bq,fun i _=>rfl⟩,?_,by simpa [ay] using TM,?_,?_,?_,?_,?_,?_⟩
  ·refine Below.setCell ?_ (by simp <;> omega) _
   exact Below.trans' (hW0▸hb0) hb1 (by simp <;> omega)
  all_goals first|(go_simp;done)|(simp [p2,p3,q2,q3];done)|(intro o;go_simp;done)|(intro o;simp [p2,p3,q2,q3];done)
 case round=>
  obtain⟨k,hk,rfl,rfl,HI⟩:=hrel
  clear p1 p2 p3 q1 q2 q3 hown hb1 hb0 hW0 HC
  by_cases hlt:k<rs.length
  ·obtain⟨⟨rs',ho,hl',hdone,hapart,hoff,hrest⟩,di,hsz,c0,c1,cf,⟨u0,d0⟩,⟨u1,d1⟩,df⟩:=HI
   obtain⟨g,cap2,hf,hg1,hg2⟩:=ho.form af
   injection hf with hf _ hcap
   subst hf;subst hcap
   obtain⟨rk,Su⟩:=bw (rs'[k]'(by omega))
   obtain⟨e0,e1,e2,e3,e4,ef⟩:=vM ho hl' (by omega:k<rs'.length)
   rw [Su]at e0 e1 e2 e3 e4
   have Q4:k<xs.length:=by rw [<-hr.1];exact hlt
   obtain⟨xk,hxk⟩:=bw (xs[k])
   have Mr:xs[k]?=some xk:=by rw [<-hxk];simp [Q4]
   have Ss:rs'[k]?=some rk:=by rw [<-Su];simp
   have hN:lN w rk xk:=hr.2 k rk xk ((hrest k aI)▸Ss) Mr
   clear Su
   obtain⟨lf,ev,kv,dv,bv⟩:=rk
   obtain⟨Oz,hE,hK,hD,hB⟩:=hN
   obtain⟨a1,n1,rfl⟩:=hE.isSlice
   obtain⟨a2,n2,rfl⟩:=hK.isSlice
   obtain⟨a3,n3,rfl⟩:=hD.isSlice
   obtain⟨a4,n4,rfl⟩:=hB.isSlice
   simp only at e0 e1 e2 e3 e4 Oz hE hK hD hB
   subst Oz
   obtain⟨W5,oC⟩:=bQ (wr.alloc (.cells #[Value.bool xk.leaf,Value.slice a1 xk.aF.length n1,Value.slice a2 xk.keys.length n2,Value.slice a3 xk.kids.length n3,Value.slice a4 xk.buf.length n4] 119))
   have qy:ah wr W5:=by rw [oC];exact(aJ _ _).alloc aI _
   have z5:W5.heap.size=wr.heap.size+1:=by rw [oC];simp
   have n0:W5.heap[wr.heap.size]?=some (.cells #[Value.bool xk.leaf,Value.slice a1 xk.aF.length n1,Value.slice a2 xk.keys.length n2,Value.slice a3 xk.kids.length n3,Value.slice a4 xk.buf.length n4] 119):=by rw [oC];exact aq _ _ rfl
   have HS:=hdd fun(W:World) (hb:ah W5 W)=>(by
    have hh:=(hb.block _ af).trans n0
    refine⟨?_,by simp [World.cell?,hh],by simp [World.cell?,hh],by simp [World.cell?,hh],by simp [World.cell?,hh],by simp [World.cell?,hh]⟩
    rw [(Below.trans' qy hb qy.size).cell (p:=⟨w.heap.size,0,none⟩) (by show w.heap.size<wr.heap.size;omega)];exact c0:W.cell? ⟨w.heap.size,0,none⟩=some (.slice (some ⟨g,0,none⟩) rs.length gc)/\W.cell? ⟨wr.heap.size,0,none⟩=some (.bool xk.leaf)/\W.cell? ⟨wr.heap.size,1,none⟩=some (.slice a1 xk.aF.length n1)/\W.cell? ⟨wr.heap.size,2,none⟩=some (.slice a2 xk.keys.length n2)/\W.cell? ⟨wr.heap.size,3,none⟩=some (.slice a3 xk.kids.length n3)/\W.cell? ⟨wr.heap.size,4,none⟩=some (.slice a4 xk.buf.length n4))
   have HG:=hdd fun(W:World) (hb:ah W5 W)=>(by
    have bb:=Below.trans' qy hb qy.size
    exact⟨(bb.cell (p:=⟨g,_,none⟩) hg2).trans e0,(bb.cell (p:=⟨g,_,none⟩) hg2).trans e1,(bb.cell (p:=⟨g,_,none⟩) hg2).trans e2,(bb.cell (p:=⟨g,_,none⟩) hg2).trans e3,(bb.cell (p:=⟨g,_,none⟩) hg2).trans e4,fun o=>(bb.frozen (p:=⟨g,_,none⟩) hg2).trans (ef o)⟩:W.cell? ⟨g,k*5,none⟩=some (.bool xk.leaf)/\W.cell? ⟨g,k*5+1,none⟩=some (.slice a1 xk.aF.length n1)/\W.cell? ⟨g,k*5+2,none⟩=some (.slice a2 xk.keys.length n2)/\W.cell? ⟨g,k*5+3,none⟩=some (.slice a3 xk.kids.length n3)/\W.cell? ⟨g,k*5+4,none⟩=some (.slice a4 xk.buf.length n4)/\∀o,W.frozen? ⟨g,o,none⟩=false)
   have KV:∀W,ah W5 W->ah w W:=fun W hb=>Below.trans' di (Below.trans' qy hb qy.size) di.size
   have HCE:=hdd fun(W:World) (hb:ah W5 W)=>eV (hE.below (KV W hb) aI)
   have iB:=hdd fun(W:World) (hb:ah W5 W)=>dV (hK.below (KV W hb) aI)
   have HCD:=hdd fun(W:World) (hb:ah W5 W)=>dV (hD.below (KV W hb) aI)
   have HCB:=hdd fun(W:World) (hb:ah W5 W)=>eV (hB.below (KV W hb) aI)
   have HST:=hdd fun(wl:World) (B:ah wr wl) (rn:Raw) (HN:E5 (w.heap.size+2) wr.heap.size wl rn xk)=>LP rn ho hl' hdone hapart hoff hrest hr.1 hg1 hg2 hlt Mr di hsz B c0 c1 cf d0 d1 df HN
   have XW:=hdd (aM qy hsz)
   have kS:=fun w'=>dS (ab:=g) (aY:=0) (n:=rs.length) (cap:=gc) (show (k:Int)=((k:Nat):Int) by rfl) hlt w'
   simp only [iM]at kS
   go_upto_region 5 with (fail)
   rw [<-oC]
   clear hr hs di hsz ho hl' hdone hapart hoff hrest e0 e1 e2 e3 e4 ef c0 c1 cf d0 d1 df hE hK hD hB qy n0 KV oC
   have T0:ah W5 W5.drew:=(aJ _ _).drew
   refine bI [(0,1),(1,0),(2,1),(3,1),(4,0),(5,1),(6,0),(8,1),(9,0),(11,1),(12,0),(14,1),(15,0),(7,2),(10,2),(13,2),(16,2),(17,1),(18,1),(19,3)] 19
    (fun W=>W.cell? ⟨w.heap.size,0,none⟩=some (.slice (some ⟨g,0,none⟩) rs.length gc)/\W.cell? ⟨wr.heap.size,0,none⟩=some (.bool xk.leaf)/\W.cell? ⟨wr.heap.size,1,none⟩=some (.slice a1 xk.aF.length n1)/\W.cell? ⟨wr.heap.size,2,none⟩=some (.slice a2 xk.keys.length n2)/\W.cell? ⟨wr.heap.size,3,none⟩=some (.slice a3 xk.kids.length n3)/\W.cell? ⟨wr.heap.size,4,none⟩=some (.slice a4 xk.buf.length n4)) cy cy (HS.out _ T0) ?_
   (simp only [bF,List.filterMap_cons,List.filterMap_nil,List.getElem?_cons_zero,List.getElem?_cons_succ,Option.map_some])
   (repeat first|refine bg ?_|refine aZ ?_)
   refine aS rfl (fun K hK=>?_)
   go_simp
   (with_reducible refine(HCE.out _ T0).mono ?_);rintro e wE ⟨vE,rfl,oE,bE⟩
   obtain⟨aE,cE,rfl⟩:=dI oE
   have TE:=Below.trans' T0 bE aI
   go_simp
   refine hK _ _ (HS.out _ TE) ?_
   clear hK K
   refine aS rfl (fun K hK=>?_)
   go_simp
   (with_reducible refine(iB.out _ TE).mono ?_);rintro e wK ⟨vK,rfl,oK,bK⟩
   obtain⟨aK,cK,rfl⟩:=dI oK
   have TK:=Below.trans' TE bK TE.size
   go_simp
   refine hK _ _ (HS.out _ TK) ?_
   clear hK K
   refine aS rfl (fun K hK=>?_)
   go_simp
   (with_reducible refine(HCD.out _ TK).mono ?_);rintro e wD ⟨vD,rfl,oD,bD⟩
   obtain⟨aD,cD,rfl⟩:=dI oD
   have TD:=Below.trans' TK bD TK.size
   go_simp
   refine hK _ _ (HS.out _ TD) ?_
   clear hK K
   refine aS rfl (fun K hK=>?_)
   go_simp
   (with_reducible refine(HCB.out _ TD).mono ?_);rintro e wB ⟨vB,rfl,oB,bB⟩
   obtain⟨aB,cB,rfl⟩:=dI oB
   have TB:=Below.trans' TD bB TD.size
   go_simp
   refine hK _ _ (HS.out _ TB) ?_
   clear hK K
   obtain⟨x0,x1,x2,x3,x4,xf⟩:=HG.out _ TB
   have HN:=hdd (show OwnAt w rs xs (.slice (some ⟨g,0,none⟩) rs.length gc) r0 (k+1) _ from HST.out wB (Below.trans' XW.out.1 TB XW.out.1.size) ⟨xk.leaf, .slice aE xk.aF.length cE, .slice aK xk.keys.length cK, .slice aD xk.kids.length cD, .slice aB xk.buf.length cB⟩ (by
    have s5:=XW.out.1.size
    have s0:=T0.size
    have hsz:=XW.out.2
    have sE:=TE.size
    have sK:=bK.size
    have sD:=bD.size
    have sB:=bB.size
    have sE':=bE.size
    have lE:=oE.lt
    have lK:=oK.lt
    have lD:=oD.lt
    have lB:=oB.lt
    refine⟨gV.of rfl (cP (gp (gp (gp oE bK) bD) bB) af) (cP (gp (gp oK bD) bB) af) (cP (gp oD bB) af) (cP oB af),fun f b hb=>?_,fun f h b hb hb'=>?_⟩
    ·rcases lH f 4 with h4|h4
     ·rcases vw h4 with rfl|rfl|rfl|rfl
      ·have:=lE b hb;omega
      ·have:=lK b hb;omega
      ·have:=lD b hb;omega
      ·have:=lB b hb;omega
     ·rw [Raw.ik _ h4]at hb;cases hb
    ·rcases lH f 4 with h4|h4
     ·rcases lH h 4 with g4|g4
      ·rcases vw h4 with rfl|rfl|rfl|rfl <;> rcases vw g4 with rfl|rfl|rfl|rfl <;> first
        |rfl
        |(have:=lE b hb;have:=lK b hb';omega)
        |(have:=lE b hb;have:=lD b hb';omega)
        |(have:=lE b hb;have:=lB b hb';omega)
        |(have:=lK b hb;have:=lE b hb';omega)
        |(have:=lK b hb;have:=lD b hb';omega)
        |(have:=lK b hb;have:=lB b hb';omega)
        |(have:=lD b hb;have:=lE b hb';omega)
        |(have:=lD b hb;have:=lK b hb';omega)
        |(have:=lD b hb;have:=lB b hb';omega)
        |(have:=lB b hb;have:=lE b hb';omega)
        |(have:=lB b hb;have:=lK b hb';omega)
        |(have:=lB b hb;have:=lD b hb';omega)
      ·rw [Raw.ik _ g4]at hb';cases hb'
     ·rw [Raw.ik _ h4]at hb;cases hb))
   clear oE oK oD oB bE bK bD bB TE TK TD
   (repeat first|refine bg ?_|refine aZ ?_)
   refine bp rfl (fun K hK=>?_)
   go_simp
   refine hK _ _ ?_
   clear hK K
   refine cv ?_
   go_wp2
   go_roundg (rs.length-(k+1))
   case measure=>omega
   case rel=>exact⟨k+1,af,rfl,by go_num,HN.out⟩
  ·have hkk:rs.length<=k:=af
   have HE:=hdd (Pn HI hkk hr.1)
   obtain⟨-,-,-,c0,c1,cf,⟨u0,d0⟩,⟨u1,d1⟩,df⟩:=HI
   clear hr hs TM
   go_wp2
   obtain⟨rs',h1,h2⟩:=HE.out (.slice go rs.length gc) (.int .i64 r0)
   exact bodyPost_ret (v:= .agg #[.slice go rs.length gc, .int .i64 r0]) (by simp [results,Tryd.results72,d0,d1,go_sem]) rfl ⟨_,rs',rfl,h1,h2⟩
end
section
variable {l:List Int} {rs:List Raw} {M bb:Nat} {t:Tr} {nv:Value} {w:World}
theorem mo.bd {W5:World} (h:mo M w nv rs t.nodes) (hM:M<=w.heap.size) (h5:W5=w.alloc (.cells #[nv, .int .i64 t.root, .int .i64 0] 128)):Bd M W5 w.heap.size nv rs t:=by
 subst h5
 refine⟨hM,aq _ _ rfl,World.ownsRow.alloc h.row _,h.len,fun i r x hr hx=>⟨(h.BR i r x hr hx).leaf,fun f=>World.ownsRow.alloc ((h.BR i r x hr hx).row f) _⟩,h.apart,fun e=>?_,fun i r f b hr hb=>⟨fun e=>?_,h.off i r f b hr hb⟩⟩
 ·have:=(h.row.lt _ e).2;omega
 ·have hi:=(gH.1 hr).1
  rw [h.len]at hi
  have:=(((h.BR i r _ hr (oL hi)).row f).lt b hb).2;omega
theorem mo.mono {M':Nat} {xs:List Nd} (h:mo M w nv rs xs) (hM:M'<=M):mo M' w nv rs xs:=
 ⟨cP h.row hM,h.len,fun i r x hr hx=>⟨(h.BR i r x hr hx).leaf,fun f=>cP ((h.BR i r x hr hx).row f) hM⟩,h.apart,h.off⟩
theorem Bd.root (h:Bd M w bb nv rs t) (n:Int):Bd M (w.setCell ⟨bb,1,none⟩ (.int .i64 n)) bb nv rs { t with root:=n }:=by
 have hb:∀b,b≠bb->(w.setCell ⟨bb,1,none⟩ (.int .i64 n)).heap[b]?=w.heap[b]?:=fun b hb=>heap_setCell_other w ⟨bb,_,none⟩ b _ hb
 refine⟨h.low,?_,bX h.row fun g hg=>hb g (fun e=>h.oZ (by rw [<-e];exact hg)),h.len,fun i r x hr hx=>(h.BR i r x hr hx).block fun f g hg=>hb g (h.off i r f g hr hg).1,h.apart,h.oZ,h.off⟩
 have:=heap_setCell_same (off:=1) (v:= .int .i64 n) h.box
 simpa using this
theorem Bd.La (h:Bd M w bb nv rs t) {ht:Nat} (hf:Full t ht l) (hl:t.nodes.length<=1000000):bL w (.agg #[nv, .int .i64 t.root]) t:=
 ⟨nv,rfl,h.nodes (by rw [h.len];exact hl) fun x hx f=>by
  have:=hf.node x hx
  rcases lH f 4 with h4|h4
  ·rcases vw h4 with rfl|rfl|rfl|rfl
   ·show x.aF.length<=_;omega
   ·show x.keys.length<=_;omega
   ·show x.kids.length<=_;omega
   ·show x.buf.length<=_;omega
  ·obtain⟨k,rfl⟩:∃k,f=k+4:=⟨f-4,af⟩
   show 0<=_;omega⟩
abbrev lT:Value:= .agg #[.slice none 0 0, .int .i64 0]
def Cw (B:Nat) (t:Tr) (e:aA) (x:Ending) (w':World):Prop:=
 ∃t2 h2 l2,Full t2 h2 l2/\gI t2.all (e::t.all)/\nE t2<=nE t+1 /\
  ((ax t2=0/\∃v2,x = .returned (.tuple #[v2, .int .i64 0])/\∀w'',aP B w' w''->bL w'' v2 t2)\/(ax t2≠0/\x = .returned (.tuple #[lT, .int .i64 1])))
theorem Nf {t2:Tr} {h h2:Nat} {l2:List Int} (hf:Full t h l) (hf2:Full t2 h2 l2) (hn:t.nodes.length<=2000) (hw:nE t2<=nE t+1):t2.nodes.length<=20000:=by
 obtain⟨k,a1,a2,-⟩:=hf2.bound
 have:=hf.VC
 omega
end
section
set_option maxRecDepth 100000
set_option maxHeartbeats 4000000
variable {key:Int} {n cap:Nat} {ao:Option Addr} {r:au} {t:Tr} {w:World}
structure P0 (w:World) (ao:Option Addr) (n cap:Nat) (root:Int) (r:au) (w':World):Prop where
 below:ah w w'
 size:w.heap.size+3<=w'.heap.size
 t0:w'.cell? ⟨w.heap.size,0,none⟩=some (.slice ao n cap)
 t1:w'.cell? ⟨w.heap.size,1,none⟩=some (.int .i64 root)
 r0:w'.cell? ⟨w.heap.size+1,0,none⟩=some (.int .i64 r.c)
 r1:w'.cell? ⟨w.heap.size+1,1,none⟩=some (.int .i64 r.s)
 r2:w'.cell? ⟨w.heap.size+1,2,none⟩=some (.int .i64 r.mi)
 r3:w'.cell? ⟨w.heap.size+1,3,none⟩=some (.int .i64 r.ma)
 r4:w'.cell? ⟨w.heap.size+1,4,none⟩=some (.int .i64 r.t)
 r5:w'.cell? ⟨w.heap.size+1,5,none⟩=some (.int .i64 r.l)
 z0:w'.cell? ⟨w.heap.size+2,0,none⟩=some (.slice none 0 0)
 z1:w'.cell? ⟨w.heap.size+2,1,none⟩=some (.int .i64 0)
 zf:∀o,w'.frozen? ⟨w.heap.size+2,o,none⟩=false
theorem P0.start (w:World) (ao:Option Addr) (n cap:Nat) (root:Int) (r:au) {W0:World} (h:W0=((w.alloc (.cells #[.slice ao n cap, .int .i64 root] 32)).alloc (.cells #[.int .i64 r.c, .int .i64 r.s, .int .i64 r.mi, .int .i64 r.ma, .int .i64 r.t, .int .i64 r.l] 42)).alloc (.cells #[.slice none 0 0, .int .i64 0] 32)) :
  P0 w ao n cap root r W0:=by
 have k0:W0.heap[w.heap.size]?=some (.cells #[.slice ao n cap, .int .i64 root] 32):=by
  rw [h,lJ _ _ _ (by simp;omega),lJ _ _ _ bq];exact aq _ _ rfl
 have k1:W0.heap[w.heap.size+1]?=some (.cells #[.int .i64 r.c, .int .i64 r.s, .int .i64 r.mi, .int .i64 r.ma, .int .i64 r.t, .int .i64 r.l] 42):=by
  rw [h,lJ _ _ _ bq];exact aq _ _ bq
 have k2:W0.heap[w.heap.size+2]?=some (.cells #[.slice none 0 0, .int .i64 0] 32):=by
  rw [h];exact aq _ _ bq
 refine⟨by rw [h];exact ag,by rw [h];simp,?_,?_,?_,?_,?_,?_,?_,?_,?_,?_,fun o=>?_⟩
 all_goals simp [World.cell?,World.frozen?,k0,k1,k2]
theorem P0.later {root:Int} {w1 w2:World} {B:Nat} (h:P0 w ao n cap root r w1) (hb:Below B w1 w2) (hB:w.heap.size+3<=B):P0 w ao n cap root r w2:=by
 have hs:=h.size
 have c:∀b o,b<w.heap.size+3->w2.cell? ⟨b,o,none⟩=w1.cell? ⟨b,o,none⟩:=fun b o h=>hb.cell (p:=⟨b,o,none⟩) (by show b<B;omega)
 refine⟨⟨hb.os.trans h.below.os,hb.tape.trans h.below.tape,hb.output.trans h.below.output,gT h.below.size hb.size,fun k hk=>(hb.block k af).trans (h.below.block k hk)⟩,by have:=hb.size;omega,(c _ _ af).trans h.t0,(c _ _ af).trans h.t1,
  (c _ _ af).trans h.r0,(c _ _ af).trans h.r1,(c _ _ af).trans h.r2,(c _ _ af).trans h.r3,(c _ _ af).trans h.r4,(c _ _ af).trans h.r5,(c _ _ af).trans h.z0,(c _ _ af).trans h.z1,
  fun o=>(hb.frozen (p:=⟨w.heap.size+2,o,none⟩) (by show w.heap.size+2<B;omega)).trans (h.zf o)⟩
theorem uz {M:Nat} {b:Nat} {e:TypeId} {us:List Value} (hM:M<=b) (h:w.heap[b]?=some (.cells us.toArray e)) (hn:us.length=n) (hl:n<=1000):w.ownsRow M e 1 (.slice (some ⟨b,0,none⟩) n n) n us:=
 ⟨by rw [hn];simp, .inr ⟨b,n,us.toArray,rfl,hM,h,kK _,by unfold maxLen;omega,by simp [hn],by simp [<-hn]⟩⟩
theorem Na (hf:ax t=0) (ie:0<=key) (hk:key<1099511627776):Ar t key=GU t key:=by
 rw [yg,ar hf,ar ⟨ie,af⟩]
 exact IP (cW hf).2 ie hk
theorem Qg (hf:ax t=0) (ie:0<=key) (hk:key<1099511627776) (hl:1073741824<(look t.all key).c):Ar t key=(au.zero,1):=by
 rw [Na hf ie hk];unfold GU;rw [ai af]
theorem Ec (hf:ax t=0) (ie:0<=key) (hk:key<1099511627776) (hl:(look t.all key).c<=1073741824):Ar t key=(look t.all key,0):=by
 rw [Na hf ie hk];unfold GU;rw [ar hl]
theorem yS (hf:ax t=0) (hl:(look t.all key).c<=1073741824):aj (look t.all key)=0:=
 (fk _).2 ⟨cY (cz (cW hf).2).bJ.dm key,hl⟩
theorem JH (hf:ax t=0) (hr:aj r=0) (hl:(look t.all key).c<=1073741824) (hm:1073741824<(look t.all key).c+r.c):bG (look t.all key) r=(au.zero,1):=by
 rw [iP (yS hf hl) hr,ai af]
theorem F8 (hf:ax t=0) (hr:aj r=0) (hl:(look t.all key).c<=1073741824) (hm:(look t.all key).c+r.c<=1073741824):bG (look t.all key) r=((look t.all key).join r,0):=by
 rw [iP (yS hf hl) hr,ar af]
theorem pN (hn:bu w (.slice ao t.nodes.length cap) t.nodes) {E:Int} (hE:(ax t≠0/\E=ax t)\/(ax t=0/\key<0/\E=2)\/(ax t=0/\0<=key/\1099511627776<=key/\E=2)\/(ax t=0/\0<=key/\key<1099511627776/\r.c=0/\E=2)\/(ax t=0/\0<=key/\key<1099511627776/\r.c≠0/\aj r≠0/\E=aj r)\/(ax t=0/\0<=key/\key<1099511627776/\r.c≠0/\aj r=0/\1073741824<(look t.all key).c/\E=1)\/(ax t=0/\0<=key/\key<1099511627776/\r.c≠0/\aj r=0/\(look t.all key).c<=1073741824/\1073741824<(look t.all key).c+r.c/\E=1)) :
  Calls Tryd.prog 42 #[.agg #[.slice ao t.nodes.length cap, .int .i64 t.root], .int .i64 key, .agg #[.int .i64 r.c, .int .i64 r.s, .int .i64 r.mi, .int .i64 r.ma, .int .i64 r.t, .int .i64 r.l]] w fun x w'=>ah w w'/\x = .returned (.tuple #[lT, .int .i64 E]):=by
 obtain⟨W0,hW0⟩:=bQ (((w.alloc (.cells #[.slice ao t.nodes.length cap, .int .i64 t.root] 32)).alloc (.cells #[.int .i64 r.c, .int .i64 r.s, .int .i64 r.mi, .int .i64 r.ma, .int .i64 r.t, .int .i64 r.l] 42)).alloc (.cells #[.slice none 0 0, .int .i64 0] 32))
 have h0:=P0.start w ao t.nodes.length cap t.root r hW0
 have tW:=hdd h0
 have HT:=hdd (show ∀w',ah w w'->bL w' (.agg #[.slice ao t.nodes.length cap, .int .i64 t.root]) t from fun w' hb=>⟨_,rfl,hn.below hb aI⟩)
 have iB:=hdd (jr (HT.out W0 h0.below))
 have HN:=hdd (show ∀w',ah w w'->bu w' (.slice ao t.nodes.length cap) t.nodes from fun w' hb=>hn.below hb aI)
 have z0:=h0.size
 obtain⟨-,-,q0,q1,-,-,-,-,-,-,-,-,-⟩:=h0
 clear hn
 have HE:=hdd hE;clear hE
 go_enter Tryd.func42,Tryd.ntmps42
 go_upto_region 1 with (fail)
 rw [<-hW0]
 clear hW0
 rcases HE.out with ⟨hf,rfl⟩|⟨hf,hk,rfl⟩|⟨hf,ie,hk,rfl⟩|⟨hf,ie,hk,hc,rfl⟩|⟨hf,ie,hk,hc,hr,rfl⟩|⟨hf,ie,hk,hc,hr,hl,rfl⟩|⟨hf,ie,hk,hc,hr,hl,hm,rfl⟩ <;> clear HE
 ·have d2:(ax t != 0)=true:=by simp [hf]
  obtain⟨F,hF⟩:=bw (ax t)
  rw [hF]at iB d2
  have HF:=hdd hF
  clear hf hF
  go_wp2_with (first|(go_at_call 73;(with_reducible refine iB.out.mono ?_);rintro e w1 ⟨rfl,hb1⟩;have hp1:=tW.out.later hb1 z0;have gw:=hdd hp1;have z1:=hp1.size;obtain⟨-,-,E7,q1',r0,r1,r2,r3,r4,r5,c0,c1,cf⟩:=hp1;clear hb1 q0 q1))
  have di:=gw.out.below
  exact bodyPost_ret (v:= .tuple #[lT, .int .i64 F]) (by simp [results,Tryd.results42,go_sem, *]) rfl ⟨ag,(by rw [HF.out])⟩
 ·rw [hf]at iB
  clear hf
  go_wp2_with (first|(go_at_call 73;(with_reducible refine iB.out.mono ?_);rintro e w1 ⟨rfl,hb1⟩;have hp1:=tW.out.later hb1 z0;have gw:=hdd hp1;have z1:=hp1.size;obtain⟨-,-,E7,q1',r0,r1,r2,r3,r4,r5,c0,c1,cf⟩:=hp1;clear hb1 q0 q1))
  have di:=gw.out.below
  exact bodyPost_ret (v:= .tuple #[lT, .int .i64 2]) (by simp [results,Tryd.results42,go_sem, *]) rfl ⟨ag,rfl⟩
 ·rw [hf]at iB
  clear hf
  go_wp2_with (first|(go_at_call 73;(with_reducible refine iB.out.mono ?_);rintro e w1 ⟨rfl,hb1⟩;have hp1:=tW.out.later hb1 z0;have gw:=hdd hp1;have z1:=hp1.size;obtain⟨-,-,E7,q1',r0,r1,r2,r3,r4,r5,c0,c1,cf⟩:=hp1;clear hb1 q0 q1))
  have di:=gw.out.below
  exact bodyPost_ret (v:= .tuple #[lT, .int .i64 2]) (by simp [results,Tryd.results42,go_sem, *]) rfl ⟨ag,rfl⟩
 ·rw [hf]at iB
  clear hf
  go_wp2_with (first|(go_at_call 73;(with_reducible refine iB.out.mono ?_);rintro e w1 ⟨rfl,hb1⟩;have hp1:=tW.out.later hb1 z0;have gw:=hdd hp1;have z1:=hp1.size;obtain⟨-,-,E7,q1',r0,r1,r2,r3,r4,r5,c0,c1,cf⟩:=hp1;clear hb1 q0 q1))
  have di:=gw.out.below
  exact bodyPost_ret (v:= .tuple #[lT, .int .i64 2]) (by simp [results,Tryd.results42,go_sem, *]) rfl ⟨ag,rfl⟩
 ·rw [hf]at iB
  have d2:(aj r != 0)=true:=by simp [hr]
  obtain⟨F,hF⟩:=bw (aj r)
  rw [hF]at d2
  have HF:=hdd hF
  have b1:¬key<0:=af;have b2:¬1099511627776<=key:=af;have b3:(r.c == 0)=false:=(by simp [hc])
  clear hf hr hF
  go_wp2_with (first|(go_at_call 73;(with_reducible refine iB.out.mono ?_);rintro e w1 ⟨rfl,hb1⟩;have hp1:=tW.out.later hb1 z0;have gw:=hdd hp1;have z1:=hp1.size;obtain⟨-,-,E7,q1',r0,r1,r2,r3,r4,r5,c0,c1,cf⟩:=hp1;clear hb1 q0 q1)|(go_at_call 37;(with_reducible refine(jQ (r:=r) (aJ _ w1)).mono ?_);rw [HF.out];rintro e w2 ⟨rfl,hb2⟩;have hp2:=gw.out.later hb2 z1;have nJ:=hdd hp2;have z2:=hp2.size;clear r0 r1 r2 r3 r4 r5 c0 c1 cf E7 q1';obtain⟨-,-,q0,q1,r0,r1,r2,r3,r4,r5,c0,c1,cf⟩:=hp2;clear hb2))
  have di:=nJ.out.below
  exact bodyPost_ret (v:= .tuple #[lT, .int .i64 F]) (by simp [results,Tryd.results42,go_sem, *]) rfl ⟨ag,(by rw [HF.out])⟩
 ·have HG:=hdd (Qg hf ie hk hl)
  have b1:¬key<0:=af;have b2:¬1099511627776<=key:=af;have b3:(r.c == 0)=false:=(by simp [hc])
  clear hl
  rw [hf]at iB
  clear hf
  go_upto_region 10 with (first|(go_at_call 73;(with_reducible refine iB.out.mono ?_);rintro e w1 ⟨rfl,hb1⟩;have hp1:=tW.out.later hb1 z0;have gw:=hdd hp1;have z1:=hp1.size;obtain⟨-,-,E7,q1',r0,r1,r2,r3,r4,r5,c0,c1,cf⟩:=hp1;clear hb1 q0 q1)|(go_at_call 37;(with_reducible refine(jQ (r:=r) (aJ _ w1)).mono ?_);rw [hr];rintro e w2 ⟨rfl,hb2⟩;have hp2:=gw.out.later hb2 z1;have nJ:=hdd hp2;have z2:=hp2.size;clear r0 r1 r2 r3 r4 r5 c0 c1 cf E7 q1';obtain⟨-,-,q0,q1,r0,r1,r2,r3,r4,r5,c0,c1,cf⟩:=hp2;clear hb2)|(go_at_call 74;(with_reducible refine(Ch (key:=key) (HT.out w2 nJ.out.below)).mono ?_);rw [HG.out];rintro e w3 ⟨rfl,hb3⟩;have Gt:=nJ.out.later hb3 z2;have vA:=hdd Gt;have z3:=Gt.size;clear r0 r1 r2 r3 r4 r5 c0 c1 cf q0 q1;obtain⟨-,-,q0,q1,r0,r1,r2,r3,r4,r5,c0,c1,cf⟩:=Gt;clear hb3))
  obtain⟨W3,hW3⟩:=bQ (w3.alloc (.cells #[.int .i64 au.zero.c, .int .i64 au.zero.s, .int .i64 au.zero.mi, .int .i64 au.zero.ma, .int .i64 au.zero.t, .int .i64 au.zero.l] 42))
  have hb3:ah w3 W3:=by rw [hW3];exact ag
  have l3:W3.heap[w3.heap.size]?=some (.cells #[.int .i64 au.zero.c, .int .i64 au.zero.s, .int .i64 au.zero.mi, .int .i64 au.zero.ma, .int .i64 au.zero.t, .int .i64 au.zero.l] 42):=by rw [hW3];exact aq _ _ rfl
  have UI:W3.heap.size=w3.heap.size+1:=by rw [hW3];simp
  have Rx:=hdd (vA.out.later hb3 z3)
  rw [<-hW3]
  clear r0 r1 r2 r3 r4 r5 c0 c1 cf q0 q1 hW3 hb3
  obtain⟨-,-,q0,q1,r0,r1,r2,r3,r4,r5,c0,c1,cf⟩:=Rx.out
  clear l3
  go_wp2_with fail
  have di:=Rx.out.below
  exact bodyPost_ret (v:= .tuple #[lT, .int .i64 1]) (by simp [results,Tryd.results42,go_sem, *]) rfl ⟨ag,rfl⟩
 ·have HG:=hdd (Ec hf ie hk hl)
  have HM:=hdd (JH hf hr hl hm)
  have b1:¬key<0:=af;have b2:¬1099511627776<=key:=af;have b3:(r.c == 0)=false:=(by simp [hc])
  clear hl hm
  obtain⟨L,hL⟩:=bw (look t.all key)
  rw [hL]at HG HM
  clear hL
  rw [hf]at iB
  clear hf
  go_upto_region 10 with (first|(go_at_call 73;(with_reducible refine iB.out.mono ?_);rintro e w1 ⟨rfl,hb1⟩;have hp1:=tW.out.later hb1 z0;have gw:=hdd hp1;have z1:=hp1.size;obtain⟨-,-,E7,q1',r0,r1,r2,r3,r4,r5,c0,c1,cf⟩:=hp1;clear hb1 q0 q1)|(go_at_call 37;(with_reducible refine(jQ (r:=r) (aJ _ w1)).mono ?_);rw [hr];rintro e w2 ⟨rfl,hb2⟩;have hp2:=gw.out.later hb2 z1;have nJ:=hdd hp2;have z2:=hp2.size;clear r0 r1 r2 r3 r4 r5 c0 c1 cf E7 q1';obtain⟨-,-,q0,q1,r0,r1,r2,r3,r4,r5,c0,c1,cf⟩:=hp2;clear hb2)|(go_at_call 74;(with_reducible refine(Ch (key:=key) (HT.out w2 nJ.out.below)).mono ?_);rw [HG.out];rintro e w3 ⟨rfl,hb3⟩;have Gt:=nJ.out.later hb3 z2;have vA:=hdd Gt;have z3:=Gt.size;clear r0 r1 r2 r3 r4 r5 c0 c1 cf q0 q1;obtain⟨-,-,q0,q1,r0,r1,r2,r3,r4,r5,c0,c1,cf⟩:=Gt;clear hb3))
  obtain⟨W3,hW3⟩:=bQ (w3.alloc (.cells #[.int .i64 L.c, .int .i64 L.s, .int .i64 L.mi, .int .i64 L.ma, .int .i64 L.t, .int .i64 L.l] 42))
  have hb3:ah w3 W3:=by rw [hW3];exact ag
  have l3:W3.heap[w3.heap.size]?=some (.cells #[.int .i64 L.c, .int .i64 L.s, .int .i64 L.mi, .int .i64 L.ma, .int .i64 L.t, .int .i64 L.l] 42):=by rw [hW3];exact aq _ _ rfl
  have UI:W3.heap.size=w3.heap.size+1:=by rw [hW3];simp
  have Rx:=hdd (vA.out.later hb3 z3)
  rw [<-hW3]
  clear r0 r1 r2 r3 r4 r5 c0 c1 cf q0 q1 hW3 hb3
  obtain⟨-,-,q0,q1,r0,r1,r2,r3,r4,r5,c0,c1,cf⟩:=Rx.out
  obtain⟨m0,m1,m2,m3,m4,m5⟩:W3.cell? ⟨w3.heap.size,0,none⟩=some (.int .i64 L.c)/\W3.cell? ⟨w3.heap.size,1,none⟩=some (.int .i64 L.s)/\W3.cell? ⟨w3.heap.size,2,none⟩=some (.int .i64 L.mi)/\W3.cell? ⟨w3.heap.size,3,none⟩=some (.int .i64 L.ma)/\W3.cell? ⟨w3.heap.size,4,none⟩=some (.int .i64 L.t)/\W3.cell? ⟨w3.heap.size,5,none⟩=some (.int .i64 L.l):=by simp [World.cell?,l3]
  clear l3
  go_upto_region 13 with (first|(go_at_call 18;(with_reducible refine(ja L r W3).mono ?_);rw [HM.out];rintro e w4 ⟨rfl,hb4⟩))
  obtain⟨W4,GL⟩:=bQ (w4.alloc (.cells #[.int .i64 au.zero.c, .int .i64 au.zero.s, .int .i64 au.zero.mi, .int .i64 au.zero.ma, .int .i64 au.zero.t, .int .i64 au.zero.l] 42))
  have M3:ah W3 W4:=by rw [GL];exact Below.trans' hb4 ((aJ _ _).alloc aI _) hb4.size
  have zz4:W4.heap.size=w4.heap.size+1:=by rw [GL];simp
  have z4:w.heap.size+3<=W4.heap.size:=by have:=M3.size;omega
  have Uo:=hdd (Rx.out.later M3 af)
  rw [<-GL]
  clear r0 r1 r2 r3 r4 r5 c0 c1 cf q0 q1 GL hb4 m0 m1 m2 m3 m4 m5
  obtain⟨-,-,q0,q1,r0,r1,r2,r3,r4,r5,c0,c1,cf⟩:=Uo.out
  go_wp2_with fail
  have di:=Uo.out.below
  exact bodyPost_ret (v:= .tuple #[lT, .int .i64 1]) (by simp [results,Tryd.results42,go_sem, *]) rfl ⟨ag,rfl⟩
theorem LF (hn:bu w (.slice ao t.nodes.length cap) t.nodes) (hf:ax t=0) (ie:0<=key) (hk:key<1099511627776) (hc:r.c≠0) (hr:aj r=0) (hm:(look t.all key).c+r.c<=1073741824) (hs:Small (⟨key,r⟩::t.all)) :
  Calls Tryd.prog 42 #[.agg #[.slice ao t.nodes.length cap, .int .i64 t.root], .int .i64 key, .agg #[.int .i64 r.c, .int .i64 r.s, .int .i64 r.mi, .int .i64 r.ma, .int .i64 r.t, .int .i64 r.l]] w fun x w'=>ah w w'/\Cw w.heap.size t ⟨key,r⟩ x w':=by
 obtain⟨W0,hW0⟩:=bQ (((w.alloc (.cells #[.slice ao t.nodes.length cap, .int .i64 t.root] 32)).alloc (.cells #[.int .i64 r.c, .int .i64 r.s, .int .i64 r.mi, .int .i64 r.ma, .int .i64 r.t, .int .i64 r.l] 42)).alloc (.cells #[.slice none 0 0, .int .i64 0] 32))
 have h0:=P0.start w ao t.nodes.length cap t.root r hW0
 have tW:=hdd h0
 have HT:=hdd (show ∀w',ah w w'->bL w' (.agg #[.slice ao t.nodes.length cap, .int .i64 t.root]) t from fun w' hb=>⟨_,rfl,hn.below hb aI⟩)
 have iB:=hdd (jr (HT.out W0 h0.below))
 have HN:=hdd (show ∀w',ah w w'->bu w' (.slice ao t.nodes.length cap) t.nodes from fun w' hb=>hn.below hb aI)
 have z0:=h0.size
 obtain⟨-,-,q0,q1,-,-,-,-,-,-,-,-,-⟩:=h0
 clear hn
 have hl:(look t.all key).c<=1073741824:=by
  have:=(cj hr hc).1.1;omega
 have HG:=hdd (Ec hf ie hk hl)
 have HM:=hdd (F8 hf hr hl hm)
 obtain⟨MD,PL⟩:=cW hf
 obtain⟨l,h,hh,hfull⟩:=yu PL
 obtain⟨t1,more,key',t2,h2,l2,p1,p2,p3,p4,p5,p6⟩:=LG (e:=⟨key,r⟩) hfull hh MD ⟨hc,hr,ie,hk⟩ (cz PL).bJ hs
 have p7:=Nf hfull p4 MD p6
 have Qx:=hdd (aM p1 (aM p2 (aM p3 (aM p4 (aM p5 (aM p6 p7))))))
 have HC:=hdd (aM hc hr)
 clear hc hr hl hm hs p1 p2 p3 p4 p5 p6 p7 hfull PL
 go_enter Tryd.func42,Tryd.ntmps42
 go_upto_region 1 with (fail)
 rw [<-hW0]
 clear hW0
 obtain⟨hc,hr⟩:=HC.out;have b1:¬key<0:=af;have b2:¬1099511627776<=key:=af;have b3:(r.c == 0)=false:=(by simp [hc]);have hd:=aM b1 (aM b2 b3);clear hd;obtain⟨L,hL⟩:=bw (look t.all key);rw [hL]at HG HM;clear hL
 rw [hf]at iB
 clear hf
 go_upto_region 10 with (first|(go_at_call 73;(with_reducible refine iB.out.mono ?_);rintro e w1 ⟨rfl,hb1⟩;have hp1:=tW.out.later hb1 z0;have gw:=hdd hp1;have z1:=hp1.size;obtain⟨-,-,E7,q1',r0,r1,r2,r3,r4,r5,c0,c1,cf⟩:=hp1;clear hb1 q0 q1)|(go_at_call 37;(with_reducible refine(jQ (r:=r) (aJ _ w1)).mono ?_);rw [hr];rintro e w2 ⟨rfl,hb2⟩;have hp2:=gw.out.later hb2 z1;have nJ:=hdd hp2;have z2:=hp2.size;clear r0 r1 r2 r3 r4 r5 c0 c1 cf E7 q1';obtain⟨-,-,q0,q1,r0,r1,r2,r3,r4,r5,c0,c1,cf⟩:=hp2;clear hb2)|(go_at_call 74;(with_reducible refine(Ch (key:=key) (HT.out w2 nJ.out.below)).mono ?_);rw [HG.out];rintro e w3 ⟨rfl,hb3⟩;have Gt:=nJ.out.later hb3 z2;have vA:=hdd Gt;have z3:=Gt.size;clear r0 r1 r2 r3 r4 r5 c0 c1 cf q0 q1;obtain⟨-,-,q0,q1,r0,r1,r2,r3,r4,r5,c0,c1,cf⟩:=Gt;clear hb3))
 obtain⟨W3,hW3⟩:=bQ (w3.alloc (.cells #[.int .i64 L.c, .int .i64 L.s, .int .i64 L.mi, .int .i64 L.ma, .int .i64 L.t, .int .i64 L.l] 42))
 have hb3:ah w3 W3:=by rw [hW3];exact ag
 have l3:W3.heap[w3.heap.size]?=some (.cells #[.int .i64 L.c, .int .i64 L.s, .int .i64 L.mi, .int .i64 L.ma, .int .i64 L.t, .int .i64 L.l] 42):=by rw [hW3];exact aq _ _ rfl
 have UI:W3.heap.size=w3.heap.size+1:=by rw [hW3];simp
 have Rx:=hdd (vA.out.later hb3 z3)
 rw [<-hW3]
 clear r0 r1 r2 r3 r4 r5 c0 c1 cf q0 q1 hW3 hb3
 obtain⟨-,-,q0,q1,r0,r1,r2,r3,r4,r5,c0,c1,cf⟩:=Rx.out
 obtain⟨m0,m1,m2,m3,m4,m5⟩:W3.cell? ⟨w3.heap.size,0,none⟩=some (.int .i64 L.c)/\W3.cell? ⟨w3.heap.size,1,none⟩=some (.int .i64 L.s)/\W3.cell? ⟨w3.heap.size,2,none⟩=some (.int .i64 L.mi)/\W3.cell? ⟨w3.heap.size,3,none⟩=some (.int .i64 L.ma)/\W3.cell? ⟨w3.heap.size,4,none⟩=some (.int .i64 L.t)/\W3.cell? ⟨w3.heap.size,5,none⟩=some (.int .i64 L.l):=by simp [World.cell?,l3]
 clear l3
 obtain⟨J,hJ⟩:=bw (L.join r)
 rw [hJ]at HM
 clear hJ
 go_upto_region 13 with (first|(go_at_call 18;(with_reducible refine(ja L r W3).mono ?_);rw [HM.out];rintro e w4 ⟨rfl,hb4⟩))
 obtain⟨W4,GL⟩:=bQ (w4.alloc (.cells #[.int .i64 J.c, .int .i64 J.s, .int .i64 J.mi, .int .i64 J.ma, .int .i64 J.t, .int .i64 J.l] 42))
 have M3:ah W3 W4:=by rw [GL];exact Below.trans' hb4 ((aJ _ _).alloc aI _) hb4.size
 have zz4:W4.heap.size=w4.heap.size+1:=by rw [GL];simp
 have z4:w.heap.size+3<=W4.heap.size:=by have:=M3.size;omega
 have Uo:=hdd (Rx.out.later M3 af)
 rw [<-GL]
 clear r0 r1 r2 r3 r4 r5 c0 c1 cf q0 q1 GL hb4 m0 m1 m2 m3 m4 m5
 obtain⟨-,-,q0,q1,r0,r1,r2,r3,r4,r5,c0,c1,cf⟩:=Uo.out
 have RI:=hdd (BG (HN.out W4 Uo.out.below) ⟨t.root,rfl⟩)
 go_upto_region 16 with ((go_at_call 72;(with_reducible refine RI.out.mono ?_);rintro e w5 ⟨nv5,rs5,rfl,cx,zh⟩;obtain⟨go,gc,rfl⟩:=dI zh.row))
 obtain⟨W5,oC⟩:=bQ (w5.alloc (.cells #[.slice go rs5.length gc, .int .i64 t.root, .int .i64 0] 128))
 have fy:ah W4 W5:=by rw [oC];exact Below.trans' cx ((aJ _ _).alloc aI _) cx.size
 have Fj:=hdd (mo.bd (t:=t) (zh.mono (show W4.heap.size<=W4.heap.size+2 by omega)) cx.size oC)
 have K2:=hdd (Uo.out.later fy af)
 have zz5:W5.heap.size=w5.heap.size+1:=by rw [oC];simp
 have CO:=hdd fy
 have s5:=cx.size
 rw [<-oC]
 clear r0 r1 r2 r3 r4 r5 c0 c1 cf q0 q1 oC cx fy zh
 obtain⟨-,-,q0,q1,r0,r1,r2,r3,r4,r5,c0,c1,cf⟩:=K2.out
 have KJ:=hdd (Ip 13 Fj.out Qx.out.1)
 go_upto_region 17 with ((go_at_call 75;(with_reducible refine KJ.out.mono ?_);rintro e w6 ⟨rfl,hp6⟩))
 obtain⟨nv6,pK,Ve,hS6⟩:=hp6
 have jY:ah W4 w6:=aw.below hS6.turn CO.out af fun i hi=>(Fj.out.lt i hi).1
 have cb:w6.cell? ⟨w5.heap.size,2,none⟩=some (.int .i64 0):=by simp [World.cell?,Ve.box]
 have tQ:=hdd (aM Ve jY)
 clear r0 r1 r2 r3 r4 r5 c0 c1 cf q0 q1 Ve hS6 jY
 go_upto_if 86 with (fail)
 clear cb
 go_cut [] (fun wx=>∃Z6 UM,Hid (Bd W4.heap.size wx w5.heap.size Z6 UM t2/\ah W4 wx))
 case first=>
  obtain⟨-,hroot,ht2,-⟩:=Qx.out
  by_cases hm0:0<=more
  ·rw [ar hm0]at ht2
   subst ht2
   obtain⟨I3,c6,hv6⟩:=dI tQ.out.1.row
   subst hv6
   obtain⟨c0,cr⟩:w6.cell? ⟨w5.heap.size,0,none⟩=some (.slice I3 pK.length c6)/\w6.cell? ⟨w5.heap.size,1,none⟩=some (.int .i64 t.root):=by rw [<-hroot];simp [World.cell?,tQ.out.1.box]
   have hbl:=(tQ.out.1.lt _ (.inl rfl)).2
   have PU:=tQ.out.1.oZ
   have J2:=tQ.out.1.box
   have iL:=hdd fun(W:World) (hT:aw (fun b=>(Value.slice I3 pK.length c6).ownBlock=some b) w6 W)=>(⟨(hT.cell hbl PU 0).trans c0,(hT.cell hbl PU 1).trans cr⟩:W.cell? ⟨w5.heap.size,0,none⟩=some (.slice I3 pK.length c6)/\W.cell? ⟨w5.heap.size,1,none⟩=some (.int .i64 t.root))
   have H0:=hdd fun(W:World) (hT:aw (fun b=>(Value.slice I3 pK.length c6).ownBlock=some b) w6 W)=>(fun o=>(hT.frozen hbl PU o).trans (by simp [World.frozen?,J2]):∀o,W.frozen? ⟨w5.heap.size,o,none⟩=false)
   have QZ:pK.length=t1.nodes.length:=tQ.out.1.len
   have GA:t1.nodes.length<=20000:=by have:=Qx.out.2.2.2.2.2.2;simp [jP]at this;omega
   obtain⟨i0,z9,hi0,hz0,DX,DW,DV⟩:=pS
   have T0:aw (fun b=>(Value.slice I3 pK.length c6).ownBlock=some b) w6 w6.drew:=(aw.refl _ _).drew
   have Zw:=hdd (aM QZ GA)
   have hlr:pK.length<=20000:=af
   have HRT:=hdd hroot
   clear c0 cr PU J2 QZ GA hroot
   go_upto_region 20 with (fail)
   refine fJ (mF.of [(0,1),(1,1),(2,1),(3,1),(4,1),(5,0),(6,1),(8,1),(9,1),(10,1),(11,1),(12,0),(13,1)] (.fork 7 14 (mF.of [(14,2),(15,1),(16,2),(17,2),(18,1),(19,1),(20,1),(21,3)] .nil) (mF.of [(7,2),(15,1),(16,2),(17,2),(18,1),(19,1),(20,1),(21,3)] .nil))) 21
    (fun W=>W.cell? ⟨w5.heap.size,0,none⟩=some (.slice I3 pK.length c6)/\W.cell? ⟨w5.heap.size,1,none⟩=some (.int .i64 t.root)) cy cy (iL.out _ T0) ?_
   simp only [mF.of]
   (repeat first|refine bP ?_|refine bO ?_)
   refine iz rfl rfl rfl rfl (fun K hK=>?_) (fun K hK=>?_)
   ·go_simp
    obtain⟨W7,jz⟩:=bQ ((w6.alloc (.cells #[.int .i64 key'] 3)).drew)
    have sI:ah w6 W7:=by rw [jz];exact ag
    have k7:W7.heap[w6.heap.size]?=some (.cells #[.int .i64 key'] 3):=by rw [jz];exact aq _ _ rfl
    have DU:W7.heap.size=w6.heap.size+1:=by rw [jz];simp
    rw [<-jz]
    have T7:aw (fun b=>(Value.slice I3 pK.length c6).ownBlock=some b) w6 W7:=aw.of sI aI
    refine hK _ _ (iL.out _ T7) ?_
    clear hK K jz T0
    (repeat first|refine bP ?_|refine bO ?_)
    refine bz rfl rfl (fun K hK=>?_)
    go_simp
    obtain⟨W8,mf⟩:=bQ (W7.alloc (.cells #[.int .i64 t.root, .int .i64 more] 3))
    have kZ:ah W7 W8:=by rw [mf];exact ag
    have k8:W8.heap[W7.heap.size]?=some (.cells #[.int .i64 t.root, .int .i64 more] 3):=by rw [mf];exact aq _ _ rfl
    have DN:W8.heap.size=w6.heap.size+2:=by rw [mf];simp [DU]
    have V6:=(kZ.block w6.heap.size af).trans k7
    rw [DU]at k8
    rw [<-mf]
    have B8:ah w6 W8:=Below.trans' sI kZ sI.size
    have T8:aw (fun b=>(Value.slice I3 pK.length c6).ownBlock=some b) w6 W8:=aw.of B8 aI
    refine hK _ _ (iL.out _ T8) ?_
    clear hK K mf T7 sI kZ k7 DU
    (repeat first|refine bP ?_|refine bO ?_)
    refine bz rfl rfl (fun K hK=>?_)
    go_simp
    obtain⟨W9,je⟩:=bQ (W8.alloc (.cells #[.bool false, .slice none 0 0, .slice (some ⟨w6.heap.size,0,none⟩) 1 1, .slice (some ⟨w6.heap.size+1,0,none⟩) 2 2, .slice none 0 0] 119))
    have oO:ah W8 W9:=by rw [je];exact ag
    have k9:W9.heap[W8.heap.size]?=some (.cells #[.bool false, .slice none 0 0, .slice (some ⟨w6.heap.size,0,none⟩) 1 1, .slice (some ⟨w6.heap.size+1,0,none⟩) 2 2, .slice none 0 0] 119):=by rw [je];exact aq _ _ rfl
    have PI:W9.heap.size=w6.heap.size+3:=by rw [je];simp [DN]
    rw [DN]at k9
    rw [<-je]
    have B9:ah w6 W9:=Below.trans' B8 oO B8.size
    have T9:aw (fun b=>(Value.slice I3 pK.length c6).ownBlock=some b) w6 W9:=aw.of B9 aI
    have VZ:=(oO.block (w6.heap.size+1) af).trans k8
    have V4:=(oO.block w6.heap.size af).trans V6
    refine hK _ _ (iL.out _ T9) ?_
    clear hK K je T8 oO k8 V6 B8
    (repeat first|refine bP ?_|refine bO ?_)
    have D4:=(tQ.out.1.below B9 aI).row
    have hM9:W4.heap.size<=w6.heap.size:=by have:=tQ.out.2.size;omega
    refine bz rfl rfl (fun K hK=>?_)
    refine wp_append_lies _ (.tmp 92) (.tmp 103) 30 rfl W4.heap.size 119 i0 z9 5 104 Tryd.underlying30 hi0 hz0 DX DW DV aW _ pK.length _ rfl D4 ⟨w6.heap.size+2,0,none⟩ 1 1 (cL ⟨false, .slice none 0 0, .slice (some ⟨w6.heap.size,0,none⟩) 1 1, .slice (some ⟨w6.heap.size+1,0,none⟩) 2 2, .slice none 0 0⟩) rfl rfl (World.news_of_block k9) ?hone aW (by unfold maxLen;omega) af af W9.heap.size rfl ?_
    case hone=>
     intro u hu
     simp only [cL,fc,List.not_mem_nil,or_false]at hu
     rcases hu with rfl|rfl|rfl|rfl|rfl <;> rfl
    intro g cap' nQ ze l9 zm MF
    have NQ:aw (fun b=>(Value.slice I3 pK.length c6).ownBlock=some b) w6 nQ:=T9.trans ⟨l9.os,l9.tape,l9.output,l9.size,fun b hb hne=>l9.block b hb fun e=>hne e.symm⟩
    refine hK _ _ (iL.out _ NQ) ?_
    clear hK K
    have Mn:=l9.size
    have hin:∀b,w6.heap.size<=b->b<w6.heap.size+3->nQ.heap[b]?=W9.heap[b]?:=fun b h1 h2=>l9.block b af (fun e=>by have:=(tQ.out.1.row.lt b e.symm).2;omega)
    have iY:=hdd (tQ.out.1.push (w1:=nQ) (kX:= .slice (some ⟨g,0,none⟩) (pK.length+1) cap') (r:=⟨false, .slice none 0 0, .slice (some ⟨w6.heap.size,0,none⟩) 1 1, .slice (some ⟨w6.heap.size+1,0,none⟩) 2 2, .slice none 0 0⟩) (x:=⟨false,[],[key'],[t.root,more],[]⟩) NQ ze (fun b hb=>by
      have hb:g=b:=dw hb
      subst hb
      rcases zm with e|e
      ·left;exact e
      ·right;omega) (by
      refine⟨gV.of rfl (nW _ _ _ _) (uz (us:=[.int .i64 key']) af ((hin _ af af).trans V4) rfl aW) (uz (us:=[.int .i64 t.root, .int .i64 more]) af ((hin _ af af).trans VZ) rfl aW) (nW _ _ _ _),fun f b hb=>?_,fun f h b hb hb'=>?_⟩
      ·rcases lH f 4 with h4|h4
       ·rcases vw h4 with rfl|rfl|rfl|rfl
        ·cases hb
        ·have hb:w6.heap.size=b:=dw hb
         omega
        ·have hb:w6.heap.size+1=b:=dw hb
         omega
        ·cases hb
       ·rw [Raw.ik _ h4]at hb;cases hb
      ·rcases lH f 4 with h4|h4
       ·rcases lH h 4 with g4|g4
        ·rcases vw h4 with rfl|rfl|rfl|rfl <;> rcases vw g4 with rfl|rfl|rfl|rfl <;> first
          |rfl
          |(cases hb;done)
          |(cases hb';done)
          |(have hb:w6.heap.size=b:=dw hb
            have hb':w6.heap.size+1=b:=dw hb'
            omega)
          |(have hb:w6.heap.size+1=b:=dw hb
            have hb':w6.heap.size=b:=dw hb'
            omega)
        ·rw [Raw.ik _ g4]at hb';cases hb'
       ·rw [Raw.ik _ h4]at hb;cases hb) (fun f b hb e=>by
      have e:g=b:=dw e
      have hgo:∀c,w6.heap.size<=c->c<w6.heap.size+3->g≠c:=fun c h1 h2 e=>by
       rcases zm with e'|e'
       ·have:=(tQ.out.1.row.lt g e').2;omega
       ·omega
      rcases lH f 4 with h4|h4
      ·rcases vw h4 with rfl|rfl|rfl|rfl
       ·cases hb
       ·have hb:w6.heap.size=b:=dw hb
        exact hgo _ af af (e.trans hb.symm)
       ·have hb:w6.heap.size+1=b:=dw hb
        exact hgo _ af af (e.trans hb.symm)
       ·cases hb
      ·rw [Raw.ik _ h4]at hb;cases hb))
    have d1:nQ.frozen? ⟨w5.heap.size,0,none⟩=false:=H0.out _ NQ 0
    obtain⟨d0,dr⟩:=iL.out _ NQ
    clear T9 NQ D4 ze l9 zm MF hin V4 VZ k9 B9
    (repeat first|refine bP ?_|refine bO ?_)
    refine dK rfl rfl (fun K hK=>?_)
    go_simp
    refine hK _ _ ?_
    clear hK K
    refine eY ?_
    have e0:(nQ.setCell ⟨w5.heap.size,0,none⟩ (.slice (some ⟨g,0,none⟩) (pK.length+1) cap')).cell? ⟨w5.heap.size,0,none⟩=some (.slice (some ⟨g,0,none⟩) (pK.length+1) cap'):=kG d0
    have e1:(nQ.setCell ⟨w5.heap.size,0,none⟩ (.slice (some ⟨g,0,none⟩) (pK.length+1) cap')).cell? ⟨w5.heap.size,1,none⟩=some (.int .i64 t.root):=jR aW dr
    have ef:∀o,(nQ.setCell ⟨w5.heap.size,0,none⟩ (.slice (some ⟨g,0,none⟩) (pK.length+1) cap')).frozen? ⟨w5.heap.size,o,none⟩=false:=fun o=>by
     have hb:=iY.out.1.box
     simp [World.frozen?,hb]
    generalize nQ.setCell ⟨w5.heap.size,0,none⟩ (.slice (some ⟨g,0,none⟩) (pK.length+1) cap')=WA at iY e0 e1 ef ⊢
    clear d0 dr d1
    have hw0:IntKind.i64.wrap ((pK.length:Int)+1-1)=(pK.length:Int):=by rw [IntWalk.i64_in _ af];omega
    go_wp2_with fail
    go_meet
    have hG:jP t1 more key'={ jo t1 ⟨false,[],[key'],[t.root,more],[]⟩with root:=(pK.length:Int) }:=by unfold jP;rw [HRT.out,<-Zw.out.1];rfl
    have hA:=iY.out.1.root (pK.length:Int)
    rw [<-hG]at hA
    have hX:ah W4 WA:=aw.below iY.out.2.turn tQ.out.2 (by have:=tQ.out.2.size;omega) fun i hi=>(tQ.out.1.lt i hi).1
    exact⟨_,_,hdd (aM hA (hX.setCell (by show W4.heap.size<=w5.heap.size;omega) _))⟩
   ·go_simp
    obtain⟨W7,jz⟩:=bQ ((w6.alloc (.cells #[.int .i64 t.root, .int .i64 more] 3)).drew)
    have sI:ah w6 W7:=by rw [jz];exact ag
    have k7:W7.heap[w6.heap.size]?=some (.cells #[.int .i64 t.root, .int .i64 more] 3):=by rw [jz];exact aq _ _ rfl
    have DU:W7.heap.size=w6.heap.size+1:=by rw [jz];simp
    rw [<-jz]
    have T7:aw (fun b=>(Value.slice I3 pK.length c6).ownBlock=some b) w6 W7:=aw.of sI aI
    refine hK _ _ (iL.out _ T7) ?_
    clear hK K jz T0
    (repeat first|refine bP ?_|refine bO ?_)
    refine bz rfl rfl (fun K hK=>?_)
    go_simp
    obtain⟨W8,mf⟩:=bQ (W7.alloc (.cells #[.int .i64 key'] 3))
    have kZ:ah W7 W8:=by rw [mf];exact ag
    have k8:W8.heap[W7.heap.size]?=some (.cells #[.int .i64 key'] 3):=by rw [mf];exact aq _ _ rfl
    have DN:W8.heap.size=w6.heap.size+2:=by rw [mf];simp [DU]
    have V6:=(kZ.block w6.heap.size af).trans k7
    rw [DU]at k8
    rw [<-mf]
    have B8:ah w6 W8:=Below.trans' sI kZ sI.size
    have T8:aw (fun b=>(Value.slice I3 pK.length c6).ownBlock=some b) w6 W8:=aw.of B8 aI
    refine hK _ _ (iL.out _ T8) ?_
    clear hK K mf T7 sI kZ k7 DU
    (repeat first|refine bP ?_|refine bO ?_)
    refine bz rfl rfl (fun K hK=>?_)
    go_simp
    obtain⟨W9,je⟩:=bQ (W8.alloc (.cells #[.bool false, .slice none 0 0, .slice (some ⟨w6.heap.size+1,0,none⟩) 1 1, .slice (some ⟨w6.heap.size,0,none⟩) 2 2, .slice none 0 0] 119))
    have oO:ah W8 W9:=by rw [je];exact ag
    have k9:W9.heap[W8.heap.size]?=some (.cells #[.bool false, .slice none 0 0, .slice (some ⟨w6.heap.size+1,0,none⟩) 1 1, .slice (some ⟨w6.heap.size,0,none⟩) 2 2, .slice none 0 0] 119):=by rw [je];exact aq _ _ rfl
    have PI:W9.heap.size=w6.heap.size+3:=by rw [je];simp [DN]
    rw [DN]at k9
    rw [<-je]
    have B9:ah w6 W9:=Below.trans' B8 oO B8.size
    have T9:aw (fun b=>(Value.slice I3 pK.length c6).ownBlock=some b) w6 W9:=aw.of B9 aI
    have VZ:=(oO.block (w6.heap.size+1) af).trans k8
    have V4:=(oO.block w6.heap.size af).trans V6
    refine hK _ _ (iL.out _ T9) ?_
    clear hK K je T8 oO k8 V6 B8
    (repeat first|refine bP ?_|refine bO ?_)
    have D4:=(tQ.out.1.below B9 aI).row
    have hM9:W4.heap.size<=w6.heap.size:=by have:=tQ.out.2.size;omega
    refine bz rfl rfl (fun K hK=>?_)
    refine wp_append_lies _ (.tmp 92) (.tmp 103) 30 rfl W4.heap.size 119 i0 z9 5 104 Tryd.underlying30 hi0 hz0 DX DW DV aW _ pK.length _ rfl D4 ⟨w6.heap.size+2,0,none⟩ 1 1 (cL ⟨false, .slice none 0 0, .slice (some ⟨w6.heap.size+1,0,none⟩) 1 1, .slice (some ⟨w6.heap.size,0,none⟩) 2 2, .slice none 0 0⟩) rfl rfl (World.news_of_block k9) ?hone aW (by unfold maxLen;omega) af af W9.heap.size rfl ?_
    case hone=>
     intro u hu
     simp only [cL,fc,List.not_mem_nil,or_false]at hu
     rcases hu with rfl|rfl|rfl|rfl|rfl <;> rfl
    intro g cap' nQ ze l9 zm MF
    have NQ:aw (fun b=>(Value.slice I3 pK.length c6).ownBlock=some b) w6 nQ:=T9.trans ⟨l9.os,l9.tape,l9.output,l9.size,fun b hb hne=>l9.block b hb fun e=>hne e.symm⟩
    refine hK _ _ (iL.out _ NQ) ?_
    clear hK K
    have Mn:=l9.size
    have hin:∀b,w6.heap.size<=b->b<w6.heap.size+3->nQ.heap[b]?=W9.heap[b]?:=fun b h1 h2=>l9.block b af (fun e=>by have:=(tQ.out.1.row.lt b e.symm).2;omega)
    have iY:=hdd (tQ.out.1.push (w1:=nQ) (kX:= .slice (some ⟨g,0,none⟩) (pK.length+1) cap') (r:=⟨false, .slice none 0 0, .slice (some ⟨w6.heap.size+1,0,none⟩) 1 1, .slice (some ⟨w6.heap.size,0,none⟩) 2 2, .slice none 0 0⟩) (x:=⟨false,[],[key'],[t.root,more],[]⟩) NQ ze (fun b hb=>by
      have hb:g=b:=dw hb
      subst hb
      rcases zm with e|e
      ·left;exact e
      ·right;omega) (by
      refine⟨gV.of rfl (nW _ _ _ _) (uz (us:=[.int .i64 key']) af ((hin _ af af).trans VZ) rfl aW) (uz (us:=[.int .i64 t.root, .int .i64 more]) af ((hin _ af af).trans V4) rfl aW) (nW _ _ _ _),fun f b hb=>?_,fun f h b hb hb'=>?_⟩
      ·rcases lH f 4 with h4|h4
       ·rcases vw h4 with rfl|rfl|rfl|rfl
        ·cases hb
        ·have hb:w6.heap.size+1=b:=dw hb
         omega
        ·have hb:w6.heap.size=b:=dw hb
         omega
        ·cases hb
       ·rw [Raw.ik _ h4]at hb;cases hb
      ·rcases lH f 4 with h4|h4
       ·rcases lH h 4 with g4|g4
        ·rcases vw h4 with rfl|rfl|rfl|rfl <;> rcases vw g4 with rfl|rfl|rfl|rfl <;> first
          |rfl
          |(cases hb;done)
          |(cases hb';done)
          |(have hb:w6.heap.size+1=b:=dw hb
            have hb':w6.heap.size=b:=dw hb'
            omega)
          |(have hb:w6.heap.size=b:=dw hb
            have hb':w6.heap.size+1=b:=dw hb'
            omega)
        ·rw [Raw.ik _ g4]at hb';cases hb'
       ·rw [Raw.ik _ h4]at hb;cases hb) (fun f b hb e=>by
      have e:g=b:=dw e
      have hgo:∀c,w6.heap.size<=c->c<w6.heap.size+3->g≠c:=fun c h1 h2 e=>by
       rcases zm with e'|e'
       ·have:=(tQ.out.1.row.lt g e').2;omega
       ·omega
      rcases lH f 4 with h4|h4
      ·rcases vw h4 with rfl|rfl|rfl|rfl
       ·cases hb
       ·have hb:w6.heap.size+1=b:=dw hb
        exact hgo _ af af (e.trans hb.symm)
       ·have hb:w6.heap.size=b:=dw hb
        exact hgo _ af af (e.trans hb.symm)
       ·cases hb
      ·rw [Raw.ik _ h4]at hb;cases hb))
    have d1:nQ.frozen? ⟨w5.heap.size,0,none⟩=false:=H0.out _ NQ 0
    obtain⟨d0,dr⟩:=iL.out _ NQ
    clear T9 NQ D4 ze l9 zm MF hin V4 VZ k9 B9
    (repeat first|refine bP ?_|refine bO ?_)
    refine dK rfl rfl (fun K hK=>?_)
    go_simp
    refine hK _ _ ?_
    clear hK K
    refine eY ?_
    have e0:(nQ.setCell ⟨w5.heap.size,0,none⟩ (.slice (some ⟨g,0,none⟩) (pK.length+1) cap')).cell? ⟨w5.heap.size,0,none⟩=some (.slice (some ⟨g,0,none⟩) (pK.length+1) cap'):=kG d0
    have e1:(nQ.setCell ⟨w5.heap.size,0,none⟩ (.slice (some ⟨g,0,none⟩) (pK.length+1) cap')).cell? ⟨w5.heap.size,1,none⟩=some (.int .i64 t.root):=jR aW dr
    have ef:∀o,(nQ.setCell ⟨w5.heap.size,0,none⟩ (.slice (some ⟨g,0,none⟩) (pK.length+1) cap')).frozen? ⟨w5.heap.size,o,none⟩=false:=fun o=>by
     have hb:=iY.out.1.box
     simp [World.frozen?,hb]
    generalize nQ.setCell ⟨w5.heap.size,0,none⟩ (.slice (some ⟨g,0,none⟩) (pK.length+1) cap')=WA at iY e0 e1 ef ⊢
    clear d0 dr d1
    have hw0:IntKind.i64.wrap ((pK.length:Int)+1-1)=(pK.length:Int):=by rw [IntWalk.i64_in _ af];omega
    go_wp2_with fail
    go_meet
    have hG:jP t1 more key'={ jo t1 ⟨false,[],[key'],[t.root,more],[]⟩with root:=(pK.length:Int) }:=by unfold jP;rw [HRT.out,<-Zw.out.1];rfl
    have hA:=iY.out.1.root (pK.length:Int)
    rw [<-hG]at hA
    have hX:ah W4 WA:=aw.below iY.out.2.turn tQ.out.2 (by have:=tQ.out.2.size;omega) fun i hi=>(tQ.out.1.lt i hi).1
    exact⟨_,_,hdd (aM hA (hX.setCell (by show W4.heap.size<=w5.heap.size;omega) _))⟩
  ·rw [ai hm0]at ht2
   subst ht2
   go_wp2_with fail
   go_meet
   exact⟨nv6,pK,tQ⟩
 case rest=>
  obtain⟨Z6,UM,CD⟩:=hcut
  obtain⟨-,-,-,Cg,WR,Wb,Q0⟩:=Qx.out
  obtain⟨ao7,c7,hv7⟩:=dI CD.out.1.row
  subst hv7
  have OT:=hdd (Uo.out.later CD.out.2 af)
  have Qz:=hdd (jr (CD.out.1.La Cg af))
  obtain⟨d0,d1⟩:wc.cell? ⟨w5.heap.size,0,none⟩=some (.slice ao7 UM.length c7)/\wc.cell? ⟨w5.heap.size,1,none⟩=some (.int .i64 t2.root):=by simp [World.cell?,CD.out.1.box]
  have P6:=(CD.out.1.lt _ (.inl rfl)).2
  have OP:=hdd (show ∀x wf,((ax t2=0/\∃v2,x=Ending.returned (.tuple #[v2, .int .i64 0])/\∀w'',aP w.heap.size wf w''->bL w'' v2 t2)\/(ax t2≠0/\x = .returned (.tuple #[lT, .int .i64 1])))->Cw w.heap.size t ⟨key,r⟩ x wf from fun x wf hx=>⟨t2,h2,l2,Cg,WR,Wb,hx⟩)
  have rC:=hdd (show ∀wf,(∀b,W4.heap.size<=b->b<wc.heap.size->wf.heap[b]?=wc.heap[b]?)->bL wf (.agg #[.slice ao7 UM.length c7, .int .i64 t2.root]) t2 from fun wf hw=>(CD.out.1.world fun b hb=>hw b (CD.out.1.lt b hb).1 (CD.out.1.lt b hb).2).La Cg af)
  clear Cg WR Wb
  by_cases hf2:ax t2=0
  ·rw [hf2]at Qz
   have OZ:=hdd hf2
   clear hf2
   go_wp2_with ((go_at_call 73;(with_reducible refine Qz.out.mono ?_);rintro e w8 ⟨rfl,kZ⟩;have e0:=(kZ.cell (p:=⟨w5.heap.size,0,none⟩) P6).trans d0;have e1:=(kZ.cell (p:=⟨w5.heap.size,1,none⟩) P6).trans d1;have Yc:=hdd (OT.out.later kZ OT.out.size);have UF:=hdd kZ;obtain⟨-,-,-,-,-,-,-,-,-,-,c0,c1,cf⟩:=Yc.out;clear kZ d0 d1))
   have di:=Yc.out.below
   exact bodyPost_ret (v:= .tuple #[.agg #[.slice ao7 UM.length c7, .int .i64 t2.root], .int .i64 0]) (by simp [results,Tryd.results42,go_sem, *]) rfl ⟨ag,OP.out _ _ (.inl ⟨OZ.out,_,rfl,fun w'' hk=>rC.out _ fun b hb hlt=>(hk.block b af (by have:=UF.out.size;simp only [ay];omega)).trans (((heap_setCell_other _ ⟨w.heap.size+2,_,none⟩ b _ (by show b≠w.heap.size+2;omega)).trans (heap_setCell_other _ ⟨w.heap.size+2,_,none⟩ b _ (by show b≠w.heap.size+2;omega))).trans (UF.out.block b hlt))⟩)⟩
  ·have OZ:=hdd hf2
   have d2:(ax t2 != 0)=true:=by simp [hf2]
   obtain⟨F,hF⟩:=bw (ax t2)
   rw [hF]at Qz d2
   clear hf2 hF
   go_wp2_with ((go_at_call 73;(with_reducible refine Qz.out.mono ?_);rintro e w8 ⟨rfl,kZ⟩;have e0:=(kZ.cell (p:=⟨w5.heap.size,0,none⟩) P6).trans d0;have e1:=(kZ.cell (p:=⟨w5.heap.size,1,none⟩) P6).trans d1;have Yc:=hdd (OT.out.later kZ OT.out.size);obtain⟨-,-,-,-,-,-,-,-,-,-,c0,c1,cf⟩:=Yc.out;clear kZ d0 d1))
   have di:=Yc.out.below
   exact bodyPost_ret (v:= .tuple #[lT, .int .i64 1]) (by simp [results,Tryd.results42,go_sem, *]) rfl ⟨ag,OP.out _ _ (.inr ⟨OZ.out,rfl⟩)⟩
theorem CR {v:Value} (h:bL w v t) (hs:ji t key r=0->Small (⟨key,r⟩::t.all)) :
  Calls Tryd.prog 42 #[v, .int .i64 key, .agg #[.int .i64 r.c, .int .i64 r.s, .int .i64 r.mi, .int .i64 r.ma, .int .i64 r.t, .int .i64 r.l]] w fun x w'=>ah w w' /\
   ((ji t key r≠0/\x = .returned (.tuple #[lT, .int .i64 (ji t key r)]))\/(ji t key r=0/\Cw w.heap.size t ⟨key,r⟩ x w')):=by
 obtain⟨nv,rfl,hn⟩:=h
 obtain⟨⟨ao,cap,rfl⟩,-⟩:=hn.len
 have er:∀{k:Int},ji t key r=k->k≠0->Calls Tryd.prog 42 #[.agg #[.slice ao t.nodes.length cap, .int .i64 t.root], .int .i64 key, .agg #[.int .i64 r.c, .int .i64 r.s, .int .i64 r.mi, .int .i64 r.ma, .int .i64 r.t, .int .i64 r.l]] w (fun x w'=>ah w w'/\x = .returned (.tuple #[lT, .int .i64 k])) ->
   Calls Tryd.prog 42 #[.agg #[.slice ao t.nodes.length cap, .int .i64 t.root], .int .i64 key, .agg #[.int .i64 r.c, .int .i64 r.s, .int .i64 r.mi, .int .i64 r.ma, .int .i64 r.t, .int .i64 r.l]] w (fun x w'=>ah w w'/\((ji t key r≠0/\x = .returned (.tuple #[lT, .int .i64 (ji t key r)]))\/(ji t key r=0/\Cw w.heap.size t ⟨key,r⟩ x w'))):=fun {k} e hk hc=>by
  subst e
  exact hc.mono fun x w' ⟨h1,h2⟩=>⟨h1, .inl ⟨hk,h2⟩⟩
 by_cases hf:ax t=0
 ·by_cases ie:0<=key
  ·by_cases hk:key<1099511627776
   ·by_cases hc:r.c=0
    ·exact er (by unfold ji;rw [ai (by simp [hf]),ar af]) aW (pN hn (.inr (.inr (.inr (.inl ⟨hf,ie,hk,hc,rfl⟩)))))
    ·by_cases hr:aj r=0
     ·by_cases hm:(look t.all key).c+r.c<=1073741824
      ·have hE:ji t key r=0:=by unfold ji;rw [ai (by simp [hf]),ai af,ai (by simp [hr]),ar hm]
       exact(LF hn hf ie hk hc hr hm (hs hE)).mono fun x w' ⟨h1,h2⟩=>⟨h1, .inr ⟨hE,h2⟩⟩
      ·have hE:ji t key r=1:=by unfold ji;rw [ai (by simp [hf]),ai af,ai (by simp [hr]),ai hm]
       by_cases hl:(look t.all key).c<=1073741824
       ·exact er hE aW (pN hn (.inr (.inr (.inr (.inr (.inr (.inr ⟨hf,ie,hk,hc,hr,hl,af,rfl⟩)))))))
       ·exact er hE aW (pN hn (.inr (.inr (.inr (.inr (.inr (.inl ⟨hf,ie,hk,hc,hr,af,rfl⟩)))))))
     ·exact er (by unfold ji;rw [ai (by simp [hf]),ai af,ar hr]) hr (pN hn (.inr (.inr (.inr (.inr (.inl ⟨hf,ie,hk,hc,hr,rfl⟩))))))
   ·exact er (by unfold ji;rw [ai (by simp [hf]),ar af]) aW (pN hn (.inr (.inr (.inl ⟨hf,ie,af,rfl⟩))))
  ·exact er (by unfold ji;rw [ai (by simp [hf]),ar af]) aW (pN hn (.inr (.inl ⟨hf,af,rfl⟩)))
 ·exact er (by unfold ji;rw [ar hf]) hf (pN hn (.inl ⟨hf,rfl⟩))
end
def fP (B:Nat) (t:Tr) (key:Int) (r:au) (w':World) (so:Option Addr) (n c:Nat) (rt E2:Int):Prop:=
 (ji t key r≠0/\E2=ji t key r)\/(ji t key r=0/\∃t2 h2 l2,Full t2 h2 l2/\gI t2.all (⟨key,r⟩::t.all)/\nE t2<=nE t+1 /\
  ((E2=0/\ax t2=0/\rt=t2.root/\∀w'',aP B w' w''->bL w'' (.agg #[.slice so n c, .int .i64 rt]) t2)\/(E2=1/\ax t2≠0)))
theorem mL {v:Value} {t:Tr} {key:Int} {r:au} {w:World} (h:bL w v t) (hs:ji t key r=0->Small (⟨key,r⟩::t.all)) :
  Calls Tryd.prog 42 #[v, .int .i64 key, .agg #[.int .i64 r.c, .int .i64 r.s, .int .i64 r.mi, .int .i64 r.ma, .int .i64 r.t, .int .i64 r.l]] w fun x w'=>ah w w' /\
   ∃so n c rt E2,x = .returned (.tuple #[.agg #[.slice so n c, .int .i64 rt], .int .i64 E2])/\fP w.heap.size t key r w' so n c rt E2:=by
 refine(CR h hs).mono ?_
 rintro x w' ⟨hb,⟨h1,rfl⟩|⟨h1,t2,h2,l2,g1,g2,g3,⟨g4,v2,rfl,g5⟩|⟨g4,rfl⟩⟩⟩
 ·exact⟨hb,none,0,0,0,_,rfl, .inl ⟨h1,rfl⟩⟩
 ·obtain⟨nv,rfl,hn⟩:=g5 w' (aP.refl _ _)
  obtain⟨⟨ao,cap,rfl⟩,-⟩:=hn.len
  exact⟨hb,_,_,_,_,_,rfl, .inr ⟨h1,t2,h2,l2,g1,g2,g3, .inl ⟨rfl,g4,rfl,g5⟩⟩⟩
 ·exact⟨hb,none,0,0,0,1,rfl, .inr ⟨h1,t2,h2,l2,g1,g2,g3, .inr ⟨rfl,g4⟩⟩⟩
theorem Full.grown {t2:Tr} {h2:Nat} {l2:List Int} (hf:Full t2 h2 l2) (h:ax t2≠0):3002<nE t2:=Nat.lt_of_not_le fun hw=>h (hf.fault hw)
end Go.Proofs.YtmljjfhgciaceaaDoor
