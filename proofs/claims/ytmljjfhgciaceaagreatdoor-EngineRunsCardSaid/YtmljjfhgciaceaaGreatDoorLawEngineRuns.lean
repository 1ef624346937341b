import Derived.Test.YtmljjfhgciaceaaGreatDoorHd
import Derived.Test.YtmljjfhgciaceaaGreatDoorCz
import Derived.Test.YtmljjfhgciaceaaGreatDoorAE
import Derived.Test.YtmljjfhgciaceaaGreatDoorEG
import Derived.Test.YtmljjfhgciaceaaGreatDoorBK
import Derived.Test.YtmljjfhgciaceaaGreatDoorSO
import Derived.Test.YtmljjfhgciaceaaGreatDoorLawBaseExpires
namespace Go.Proofs.YtmljjfhgciaceaaGreatDoor
open Go.RowKit
set_option maxRecDepth 100000
set_option maxHeartbeats 4000000
variable {m1 m2:Array Value} {x:St} {w5 wr w:World}
def ErD (bm:Nat):Nat->Prop:=fun q=>q=bm\/q=bm+1
structure Qm (w5:World) (x:St) (m1 m2:Array Value) (wr:World):Prop where
 below:aq w5 wr
 bm:wr.heap[w5.heap.size]?=some (.cells m1 37)
 bs:wr.heap[w5.heap.size+1]?=some (.cells m2 37)
 md:∀w'',Only (ErD w5) wr w''->pd w'' (.agg m1) x.m/\pd w'' (.agg m2) x.s
theorem Qm.start (w5:World):Qm w5 St.zero oO oO ((w5.alloc (.cells oO 37)).alloc (.cells oO 37)):=by
 refine⟨aj,?_,au _ _ bh,fun w'' _=>⟨⟨_,_,rfl,ct.nil _ _ _ _,ct.nil _ _ _ _⟩,⟨_,_,rfl,ct.nil _ _ _ _,ct.nil _ _ _ _⟩⟩⟩;rw [gy _ _ _ bh];exact au _ _ rfl
theorem Qm.step {w6 w7 V:World} {x':St} {n1 n2:Array Value} (h:Qm w5 x m1 m2 wr) (h6:w6=wr.heap.size+1) (h7:aq w6 w7) (U5:∀b,b<wr.heap.size->w6.heap[b]?=wr.heap[b]?) (hb:aq w5 V) (hz:w7<=V.heap.size)
  (hV:∀b,b≠w5.heap.size->b≠w5.heap.size+1->b≠wr.heap.size->V.heap[b]?=w7.heap[b]?) (v1:V.heap[w5.heap.size]?=some (.cells n1 37)) (v2:V.heap[w5.heap.size+1]?=some (.cells n2 37))
  (hK:∀w'',aQ w6 w7 w''->pd w'' (.agg m1) x.m->pd w'' (.agg m2) x.s->pd w'' (.agg n1) x'.m/\pd w'' (.agg n2) x'.s):Qm w5 x' n1 n2 V:=by
 have hs:=(eJ.1 h.bs).1;have s7:=h7.size;refine⟨hb,v1,v2,fun w'' ho=>?_⟩;have hne:∀q,q<wr.heap.size->¬ErD w5 q->w''.heap[q]?=wr.heap[q]?:=fun q hq hd=>by
  have h1:q≠w5:=fun e=>hd (.inl e);have h2:q≠w5+1:=fun e=>hd (.inr e);rw [ho.block q ai hd,hV q h1 h2 ai,h7.block q ai,U5 q hq]
 obtain⟨g1,g2⟩:=h.md w'' ⟨by have:=ho.size;omega,hne⟩;refine hK w'' ⟨by have:=ho.size;omega,fun q h1 h2=>?_⟩ g1 g2;rw [ho.block q ai (fun e=>by rcases e with e|e <;> omega),hV q ai ai ai]
theorem Qm.later {W:World} (h:Qm w5 x m1 m2 wr) (hb:aq wr W):Qm w5 x m1 m2 W:=
 ⟨aF h.below hb h.below.size,(hb.block _ (eJ.1 h.bm).1).trans h.bm,(hb.block _ (eJ.1 h.bs).1).trans h.bs,fun w'' ho=>h.md w'' ((Only.of hb aO).trans ho)⟩
theorem Hj:∀{l:List Ac} {x:St} {k:Nat} {a:Ac},l[k]?=some a->(tV x l)[k]?=some (gH (oh x (l.take k)) a)
 |[],x,k,a,h=>by simp at h
 |b::l,x,0,a,h=>by
  obtain rfl:b=a:=by simpa using h
  rfl
 |b::l,x,k+1,a,h=>by
  have:=Hj (x:=dP x b) (show l[k]?=some a by simpa using h);rw [List.take_succ_cons];exact this
theorem vO {v:Value} {m:Mo} (h:pd w v m):∃na nc la lc,v = .agg #[ah na m.ns nc,af m.fl,ah la m.L lc]:=by
 obtain⟨nv,lv,rfl,n1,n2⟩:=h;obtain⟨na,nc,rfl⟩:=n1.isSlice;obtain⟨la,lc,rfl⟩:=n2.isSlice;exact⟨na,nc,la,lc,rfl⟩
theorem C8 {v:Value} {xs:List Ac} (h:Ki w v xs) (hs:∀a∈xs,a.s.size<=140737488351232) (hsz:cI w) :
  Calls Tryz.prog 3 #[v] w fun e w'=>e = .returned (.bool true)/\aq w w':=by
 obtain⟨ao,cap,rfl⟩:=h.isSlice;have HX:=ag fun W (hb:aq w W)=>(h.below hb aO:Ki W _ xs);have HSS:=ag hs;have ry:=ag hsz;obtain⟨i0,z,i1,i2,i3,i4,i5⟩:=cG Tryz.afM;have lu:=ag (aJ i1 (aJ i2 (aJ i3 (aJ i4 i5))));clear h hs hsz i1 i2 i3 i4 i5;by_cases hl:xs.length<=500
 ·have hg:¬(500:Int)<(xs.length:Int):=ai;have HL:=ag hl;go_enter Tryz.func3,Tryz.ntmps3;go_upto_region 2 with (first|(at_builtin;refine wpList_plain rfl fun _ hK=>?_;refine gu (.const (az 0 0)) (.tmp 11) rfl i0 z Tryz.underlying22 lu.1 lu.2.1 lu.2.2.1 lu.2.2.2.1 lu.2.2.2.2 bY bY rh _ xs (JD _) rfl rfl (HX _ (aW _ _)) ?_;intro v1 w1 tW hb1;refine hK _ _ ?_;obtain⟨a1,c1,rfl⟩:=aU tW;have GG:=ag hb1;have HRU:=ag (Uz (ct.owned rh tW rfl ai) HSS HL (ry.below hb1));clear tW hb1)|(go_at_call 5;(with_reducible refine HRU.out.mono ?_);rintro e w2 ⟨hb2,oa,oc,qs,b,sa,sc,g0,l0,p0,g1,l1,p1,g2,l2,p2,rfl,hqs,hown,hrows,wJ,TC,hok⟩;have HP:=ag (aJ hqs (aJ hown (aJ hrows (aJ wJ (aJ TC hok)))));have oL:=ag hb2;clear hqs hown hrows wJ TC hok hb2));obtain⟨W3,hW3⟩:=cd (w2.alloc (.cells (aL sa b.names sc g0 l0 p0 g1 l1 p1 g2 l2 p2 b) 30));have hb3:aq w2 W3:=by rw [hW3];exact aj
  have k3:W3.heap[w2.heap.size]?=some (.cells (aL sa b.names sc g0 l0 p0 g1 l1 p1 g2 l2 p2 b) 30):=by rw [hW3];exact au _ _ rfl
  have z3:W3=w2.heap.size+1:=by rw [hW3];simp
  have sL:=ag hb3;have Ug:=ag k3;have HZ3:=ag z3;have Tz:qs=xs.length:=by
   have h1:=congrArg List.length HP.1;rw [oX,Ca]at h1;exact h1
  rw [<-hW3];rw [Tz];clear hW3 hb3 k3 z3;have HQL:=ag Tz;clear Tz;go_upto_region 9 with (fail);have HST:=Qm.start W3;obtain⟨W5,mD⟩:=cd ((W3.alloc (.cells oO 37)).alloc (.cells oO 37));rw [<-mD]at HST ⊢;have HST:=ag HST;clear mD
  go_loopg [8] xs (fun g i wr=>∃k:Nat,k<=xs/\g=xs-k/\i=af k/\Hid (∃m1 m2,Qm W3 (oh St.zero (xs.take k)) m1 m2 wr))
  case atStart=>exact⟨0,eY _,rfl,rfl,ag ⟨_,_,HST⟩⟩
  case round=>
   clear HST;obtain⟨k,hk,rfl,rfl,HR⟩:=hrel;obtain⟨m1,m2,hA⟩:=HR.out;clear HR;obtain⟨X,hX⟩:=bG (oh St.zero (xs.take k));rw [hX]at hA;obtain⟨na,nc,la,lc,e1⟩:=vO (hA.md wr (Only.refl _ _)).1;obtain⟨Ij,Ig,Iz,Ix,e2⟩:=vO (hA.md wr (Only.refl _ _)).2;injection e1 with e1;injection e2 with e2;subst e1 e2;have HA:=ag hA;have HXS:=ag hX;obtain⟨x0,x1,x2,xf⟩:=eP hA.bm;obtain⟨s0,s1,s2,sf⟩:=eP hA.bs;have alW:=(eJ.1 hA.bs).1;clear hA hX;by_cases hlt:k<xs
   ·have tz:(k:Int)<(xs.length:Int):=ai;have hb0:aq w wr:=aF (aF GG (aF oL sL oL.size) GG.size) HA.below (by have:=GG.size;have:=oL.size;have:=HZ3.out;omega);obtain⟨_,_,hv,-,-,-,-,a5⟩:=HX w (aW _ _);injection hv with hv1 hv2 hv3;subst hv1 hv3;clear hv2;obtain⟨lb,wh,rfl,hlb,hlc⟩:=a5 ai;obtain⟨a,ha⟩:=bG (xs[k]);have HAC:=ag fun W (hb:aq w W)=>Fl (w:=W) (b:=lb) (off:=wh) (xs:=xs) (fun i x hi j u hu=>(hb.cell (p:=⟨lb,_,none⟩) hlb).trans (hlc i x hi j u hu)) hlt;rw [ha]at HAC;have jA:=fun w'=>Nt (ab:=lb) (aR:=wh) (n:=xs.length) (cap:=cap) (show (k:Int)=((k:Nat):Int) by rfl) hlt w';have HHA:=ag ha;have tu:a.s.size<=140737488351232:=(by rw [<-ha];exact HSS _ (eZ hlt));have MT:=ag hb0;have hok:=HP.2.2.2.2.2 k ai;rw [HXS]at hok;have qK:=ag hok;clear ha a5 hlc hb0 hok;go_upto_region 12 with (fail);obtain⟨W6,rL⟩:=cd (wr.alloc (.cells sO 42));have ji:aq wr W6:=(by rw [rL];exact aj);have k6:W6.heap[wr.heap.size]?=some (.cells sO 42):=(by rw [rL];exact au _ _ rfl);have z6:W6=wr.heap.size+1:=(by rw [rL];simp);have pM:=ag (aJ ji (aJ k6 z6));rw [<-rL];clear rL ji k6 z6 x0 x1 x2 xf s0 s1 s2 sf;have HS:=ag fun(W:World) (hb:aq W6 W)=>(by
     have g:=aF pM.1 hb pM.1.size;obtain⟨y0,y1,y2,-⟩:=eP ((g.block _ ai).trans HA.bm);obtain⟨u0,u1,u2,-⟩:=eP ((g.block _ ai).trans HA.bs);exact⟨y0,y1,y2,u0,u1,u2,HAC W (aF MT g MT.size)⟩ :
     W.cell? (W3,0)=some (ah na X.m.ns nc)/\(W,W3.heap.size,1,X.m.fl)/\W.cell? (W3,2)=some (ah la X.m.L lc)/\W.cell? (W3,1,0)=some (ah Ij X.s.ns Ig)/\(W,W3.heap.size+1,1,X.s.fl)/\W.cell? (W3,1,2)=some (ah Iz X.s.L Ix)/\(W,lb,wh+k*6,a.k)/\W.cell? (lb,wh+k*6+1)=some (.string a.s)/\(W,lb,wh+k*6+2,a.t)/\(W,lb,wh+k*6+3,a.z)/\(W,lb,wh+k*6+4,a.sz)/\(W,lb,wh+k*6+5,a.v))
    refine fD [(0,0),(1,0),(2,1),(3,1),(4,1),(5,0),(6,3),(7,1),(8,1),(9,1),(10,1),(11,3),(12,3),(13,3)] 6 (fun W=>W.cell? (W3,0)=some (ah na X.m.ns nc)/\(W,W3.heap.size,1,X.m.fl)/\W.cell? (W3,2)=some (ah la X.m.L lc)/\W.cell? (W3,1,0)=some (ah Ij X.s.ns Ig)/\(W,W3.heap.size+1,1,X.s.fl)/\W.cell? (W3,1,2)=some (ah Iz X.s.L Ix)/\(W,lb,wh+k*6,a.k)/\W.cell? (lb,wh+k*6+1)=some (.string a.s)/\(W,lb,wh+k*6+2,a.t)/\(W,lb,wh+k*6+3,a.z)/\(W,lb,wh+k*6+4,a.sz)/\(W,lb,wh+k*6+5,a.v)) cV cV (HS _ (aW _ _).drew) ?_
    (simp only [bV,List.filterMap_cons,List.filterMap_nil,List.getElem?_cons_zero,List.getElem?_cons_succ,Option.map_some])
    (repeat first|refine bg ?_|refine aZ ?_)
    refine bq rfl (fun K hK=>?_);go_simp;have GU:aq W6 W6.drew:=(aW _ _).drew;have GR:aq wr W6.drew:=aF pM.1 GU pM.1.size;have Xj:=HA.md W6.drew (Only.of GR aO)
    (with_reducible refine(J1 (a:=a) Xj.1 Xj.2 qK.out ai tu).mono ?_)
    rintro e w7 ⟨ow,mv',sv',q,rfl,hq,hK7⟩;go_simp;have Yh:pd w7 mv' (dP X a).m/\pd w7 sv' (dP X a).s:=by
     obtain⟨g1,g2⟩:=HA.md w7 (Only.of (aF GR ow GR.size) aO);exact⟨(hK7 w7 (aQ.refl _ _) g1 g2).1,(hK7 w7 (aQ.refl _ _) g1 g2).2.1⟩
    obtain⟨ea,ec,eb,ed,e1⟩:=vO Yh.1;obtain⟨fa,fc,fb,fd,e2⟩:=vO Yh.2;obtain⟨n1,yu⟩:=bG ((dP X a).m.ns.length);obtain⟨n2,tT⟩:=bG ((dP X a).m.L.length);obtain⟨n3,FW⟩:=bG ((dP X a).s.ns.length);obtain⟨n4,hn4⟩:=bG ((dP X a).s.L.length);obtain⟨TN,hf1⟩:=bG ((dP X a).m.fl);obtain⟨Sp,hf2⟩:=bG ((dP X a).s.fl);rw [yu,tT,hf1]at e1;rw [FW,hn4,hf2]at e2;subst e1 e2;have hB7:aq wr w7:=aF GR ow GR.size;have zn:=ag (aJ (show aq W6 w7 from aF GU ow aO) hB7);have HK7:=ag (aJ hq hK7);have hs7:=ow.size;have DK:=pM.2.2;have hs6:W6.drew=W6.heap.size:=rfl;have k1:=(hB7.block _ ai).trans HA.bm;have k2:=(hB7.block _ ai).trans HA.bs;have k4:w7.heap[wr.heap.size]?=_:=((show aq W6 w7 from aF GU ow aO).block _ ai).trans pM.2.1;have ZT:=ag (aJ k1 (aJ k2 k4));obtain⟨x0,x1,x2,xf⟩:=eP k1;have b0:aq W3 w7:=aF HA.below hB7 HA.below.size;have hs3:=HA.below.size;refine hK _ _ ?_;clear hK K yu tT FW hn4 hf1 hf2 k1 k2 k4 hB7 ow hq hK7 Yh GR GU Xj
    (repeat first|refine bg ?_|refine aZ ?_)
    refine bq rfl (fun K hK=>?_);go_simp;obtain⟨V1,hV1⟩:=cd ((((w7.setCell (W3,0) (ah ea n1 ec)).setCell (W3,1) (af TN)).setCell (W3,2) (ah eb n2 ed)));have vA:V1.heap[W3.heap.size]?=some (.cells #[ah ea n1 ec,af TN,ah eb n2 ed] 37):=by
     have:=aM (off:=2) (v:=(ah eb n2 ed)) (aM (off:=1) (v:=(af TN)) (aM (off:=0) (v:=(ah ea n1 ec)) (ZT.1)));rw [hV1];simpa using this
    have oA:∀b,b≠W3.heap.size->V1.heap[b]?=w7.heap[b]?:=fun b hb=>(by rw [hV1];refine(cH _ ⟨W3.heap.size,_,none⟩ b _ hb).trans ?_;refine(cH _ ⟨W3.heap.size,_,none⟩ b _ hb).trans ?_;refine(cH _ ⟨W3.heap.size,_,none⟩ b _ hb).trans ?_;rfl);have bA:aq W3 V1:=(by rw [hV1];exact(((b0.setCell (by show W3<=W3.heap.size;omega) _).setCell (by show W3<=W3.heap.size;omega) _).setCell (by show W3<=W3.heap.size;omega) _));have zA:V1=w7.heap.size:=(by rw [hV1];simp);rw [<-hV1];refine hK _ _ ?_;clear hK K hV1 x0 x1 x2 xf;obtain⟨x0,x1,x2,xf⟩:=eP ((oA _ ai).trans ZT.2.1)
    (repeat first|refine bg ?_|refine aZ ?_)
    refine bq rfl (fun K hK=>?_);go_simp;obtain⟨V2,hV2⟩:=cd ((((V1.setCell (W3,1,0) (ah fa n3 fc)).setCell (W3,1,1) (af Sp)).setCell (W3,1,2) (ah fb n4 fd)));have vB:V2.heap[W3.heap.size+1]?=some (.cells #[ah fa n3 fc,af Sp,ah fb n4 fd] 37):=by
     have:=aM (off:=2) (v:=(ah fb n4 fd)) (aM (off:=1) (v:=(af Sp)) (aM (off:=0) (v:=(ah fa n3 fc)) (((oA _ ai).trans ZT.2.1))));rw [hV2];simpa using this
    have oB:∀b,b≠W3.heap.size+1->V2.heap[b]?=V1.heap[b]?:=fun b hb=>(by rw [hV2];refine(cH _ ⟨W3.heap.size+1,_,none⟩ b _ hb).trans ?_;refine(cH _ ⟨W3.heap.size+1,_,none⟩ b _ hb).trans ?_;refine(cH _ ⟨W3.heap.size+1,_,none⟩ b _ hb).trans ?_;rfl);have bB:aq W3 V2:=(by rw [hV2];exact(((bA.setCell (by show W3<=W3.heap.size+1;omega) _).setCell (by show W3<=W3.heap.size+1;omega) _).setCell (by show W3<=W3.heap.size+1;omega) _));have zB:V2=V1.heap.size:=(by rw [hV2];simp);rw [<-hV2];refine hK _ _ ?_;clear hK K hV2 x0 x1 x2 xf;obtain⟨x0,x1,x2,x3,x4,x5,x6,x7,xf⟩:=cU ((oB _ ai).trans ((oA _ ai).trans ZT.2.2))
    (repeat first|refine bg ?_|refine aZ ?_)
    refine bq rfl (fun K hK=>?_);go_simp;obtain⟨V3,GV⟩:=cd (((((((((V2.setCell (wr,0) (af q.an.code)).setCell (wr,1) (af q.an.is.c)).setCell (wr,2) (af q.an.is.s)).setCell (wr,3) (af q.an.is.mi)).setCell (wr,4) (af q.an.is.ma)).setCell (wr,5) (af q.an.is.t)).setCell (wr,6) (af q.an.is.l)).setCell (wr,7) (ah q.so q.n q.c)));have vC:V3.heap[wr.heap.size]?=some (.cells #[af q.an.code,af q.an.is.c,af q.an.is.s,af q.an.is.mi,af q.an.is.ma,af q.an.is.t,af q.an.is.l,ah q.so q.n q.c] 42):=by
     have:=aM (off:=7) (v:=(ah q.so q.n q.c)) (aM (off:=6) (v:=(af q.an.is.l)) (aM (off:=5) (v:=(af q.an.is.t)) (aM (off:=4) (v:=(af q.an.is.ma)) (aM (off:=3) (v:=(af q.an.is.mi)) (aM (off:=2) (v:=(af q.an.is.s)) (aM (off:=1) (v:=(af q.an.is.c)) (aM (off:=0) (v:=(af q.an.code)) (((oB _ ai).trans ((oA _ ai).trans ZT.2.2))))))))));rw [GV];simpa using this
    have oC:∀b,b≠wr.heap.size->V3.heap[b]?=V2.heap[b]?:=fun b hb=>(by rw [GV];refine(cH _ ⟨wr.heap.size,_,none⟩ b _ hb).trans ?_;refine(cH _ ⟨wr.heap.size,_,none⟩ b _ hb).trans ?_;refine(cH _ ⟨wr.heap.size,_,none⟩ b _ hb).trans ?_;refine(cH _ ⟨wr.heap.size,_,none⟩ b _ hb).trans ?_;refine(cH _ ⟨wr.heap.size,_,none⟩ b _ hb).trans ?_;refine(cH _ ⟨wr.heap.size,_,none⟩ b _ hb).trans ?_;refine(cH _ ⟨wr.heap.size,_,none⟩ b _ hb).trans ?_;refine(cH _ ⟨wr.heap.size,_,none⟩ b _ hb).trans ?_;rfl);have bC:aq W3 V3:=(by rw [GV];exact((((((((bB.setCell (by show W3<=wr.heap.size;omega) _).setCell (by show W3<=wr.heap.size;omega) _).setCell (by show W3<=wr.heap.size;omega) _).setCell (by show W3<=wr.heap.size;omega) _).setCell (by show W3<=wr.heap.size;omega) _).setCell (by show W3<=wr.heap.size;omega) _).setCell (by show W3<=wr.heap.size;omega) _).setCell (by show W3<=wr.heap.size;omega) _));have zC:V3=V2.heap.size:=(by rw [GV];simp);rw [<-GV];refine hK _ _ ?_;clear hK K GV x0 x1 x2 x3 x4 x5 x6 x7 xf;refine cC ?_;have hst:=(Qm.step (x':=dP X a) HA pM.2.2 zn.1 pM.1.block bC ai (fun b h1 h2 h3=>(oC b h3).trans ((oB b h2).trans (oA b h1))) ((oC _ ai).trans ((oB _ ai).trans vA)) ((oC _ ai).trans vB) fun w'' hk a1 a2=>⟨(HK7.2 w'' hk a1 a2).1,(HK7.2 w'' hk a1 a2).2.1⟩:Qm W3 (dP X a) _ _ V3);have HST:=ag hst;have HVC:=ag vC;have hk7:aQ W6.drew w7 V3:=⟨ai,fun b h1 _=>(oC b ai).trans ((oB b ai).trans (oA b ai))⟩;have hen:cX V3 q.v q.an.rows:=by
     obtain⟨g1,g2⟩:=HA.md V3 ⟨by have:=zn.2.size;omega,fun b hb hd=>(oC b ai).trans ((oB b (fun e=>hd (.inr e))).trans ((oA b (fun e=>hd (.inl e))).trans (zn.2.block b hb)))⟩;exact(HK7.2 V3 hk7 g1 g2).2.2
    have hbW:aq w2 V3:=aF sL bC sL.size;have hkq:k<qs:=(by have:=HQL.out;omega);obtain⟨qk,hqk⟩:=bG (qs[k]);have hxk:xs[k]?=some a:=(by rw [<-HHA];simp [hlt]);have hqa:qk.an=q.an:=by
     have h1:(qs.map uf.an)[k]?=some qk.an:=(by rw [List.getElem?_map,oZ hkq,hqk];rfl);rw [HP.1,Hj hxk,HXS]at h1;exact(dh h1).symm.trans HK7.1.symm
    have hlen:qs.length<=1000000:=(by have:=HQL.out;have:=HL.out;omega);obtain⟨_,_,hv,-,-,-,-,b5⟩:=(HP.2.1.at hlen).below hbW aO;obtain⟨ob,oP,hoo,ni,hoc⟩:=b5 ai;injection hv with hv1 hv2 hv3;have Ya:oa=some ⟨ob,oP,none⟩:=hv1.trans hoo;have hcs:=P8 hoc hkq;rw [hqk,hqa]at hcs;have hqm:qk∈qs:=(by rw [<-hqk];exact eZ hkq);have hrw:cX V3 qk.v q.an.rows:=by
     have hr:=HP.2.2.1 qk hqm;rw [hqa]at hr;have hn:q.an.rows.length<=1000000:=VB HP.2.2.2.2.2 HL q.an (by rw [<-hqa,<-HP.1];exact List.mem_map_of_mem hqm);exact(hr.at hn).below hbW aO
    have HSR:=ag fun W (hb:aq V3 W)=>(((A5 (hrw.below hb aO) (hen.below hb aO)).mono fun e w' h=>⟨by rw [h.1];simp,h.2⟩):Calls Tryz.prog 8 #[qk.v,q.v] W fun e w'=>e = .returned (.bool true)/\aq W w');have NZ:=ag fun(W:World) (hb:aq V3 W)=>(by
     obtain⟨u0,u1,u2,u3,u4,u5,u6,u7⟩:=hcs;obtain⟨t0,t1,t2,t3,t4,t5,t6,t7,-⟩:=cU ((hb.block _ (by have:=(eJ.1 HVC).1;omega)).trans HVC);have g:∀o,W.cell? ⟨ob,o,none⟩=V3.cell? ⟨ob,o,none⟩:=fun o=>hb.cell (p:=⟨ob,o,none⟩) ni;exact⟨(g _).trans u0,(g _).trans u1,(g _).trans u2,(g _).trans u3,(g _).trans u4,(g _).trans u5,(g _).trans u6,(g _).trans u7,t0,t1,t2,t3,t4,t5,t6,t7⟩ :
     (W,ob,oP+k*8,q.an.code)/\(W,ob,oP+k*8+1,q.an.is.c)/\(W,ob,oP+k*8+2,q.an.is.s)/\(W,ob,oP+k*8+3,q.an.is.mi)/\(W,ob,oP+k*8+4,q.an.is.ma)/\(W,ob,oP+k*8+5,q.an.is.t)/\(W,ob,oP+k*8+6,q.an.is.l)/\W.cell? (ob,oP+k*8+7)=some (ah qk.so qk.n qk.c)/\(W,wr.heap.size,0,q.an.code)/\(W,wr.heap.size,1,q.an.is.c)/\(W,wr.heap.size,2,q.an.is.s)/\(W,wr.heap.size,3,q.an.is.mi)/\(W,wr.heap.size,4,q.an.is.ma)/\(W,wr.heap.size,5,q.an.is.t)/\(W,wr.heap.size,6,q.an.is.l)/\W.cell? (wr,7)=some (ah q.so q.n q.c))
    have ama:=fun w'=>U0 (ab:=ob) (aR:=oP) (n:=xs.length) (cap:=oc) (show (k:Int)=((k:Nat):Int) by rfl) hlt w';subst Ya;have Bh:=ag (show oh St.zero (xs.take (k+1))=dP X a by rw [List.take_add_one,hxk];show oh St.zero (xs.take k++[a])=_;rw [EK,HXS]);clear hst vA vB vC oA oB oC bA bB bC zA zB zC b0 hk7 hen hbW hkq hqk hxk hqa hlen b5 hoo ni hoc hv1 hv2 hv3 hcs hqm hrw tu jA;go_upto_region 13 with (fail);refine eA [(0,1),(1,1),(2,1),(3,1),(4,0),(5,1),(6,0),(7,1),(8,1),(9,1),(10,1),(11,1),(12,1),(13,0),(14,1),(15,0),(16,1),(17,1),(18,1),(19,1),(20,1),(21,1),(22,1),(23,0),(24,1),(25,0),(26,2),(27,1),(28,3)] 28 (fun W=>(W,ob,oP+k*8,q.an.code)/\(W,ob,oP+k*8+1,q.an.is.c)/\(W,ob,oP+k*8+2,q.an.is.s)/\(W,ob,oP+k*8+3,q.an.is.mi)/\(W,ob,oP+k*8+4,q.an.is.ma)/\(W,ob,oP+k*8+5,q.an.is.t)/\(W,ob,oP+k*8+6,q.an.is.l)/\W.cell? (ob,oP+k*8+7)=some (ah qk.so qk.n qk.c)/\(W,wr.heap.size,0,q.an.code)/\(W,wr.heap.size,1,q.an.is.c)/\(W,wr.heap.size,2,q.an.is.s)/\(W,wr.heap.size,3,q.an.is.mi)/\(W,wr.heap.size,4,q.an.is.ma)/\(W,wr.heap.size,5,q.an.is.t)/\(W,wr.heap.size,6,q.an.is.l)/\W.cell? (wr,7)=some (ah q.so q.n q.c)) cV cV (NZ _ (aW _ _).drew) ?_
    (simp only [bV,List.filterMap_cons,List.filterMap_nil,List.getElem?_cons_zero,List.getElem?_cons_succ,Option.map_some])
    (repeat (first|refine lh ?_|refine lg ?_|refine kZ ?_);(try simp only [Act.put,List.setIfInBounds_toArray,List.set_cons_zero,List.set_cons_succ]))
    refine qQ ?_ (fun K hK=>?_)
    (focus (first|exact bM rfl _|exact eK rfl rfl rfl rfl))
    go_simp
    (with_reducible refine(HSR.out _ (aW _ _).drew).mono ?_);rintro e w8 ⟨rfl,jf⟩
    have YN:aq V3 w8:=aF (aW _ _).drew jf aO;have BG:=ag YN;go_simp;refine hK _ _ (NZ _ YN) ?_;clear hK K jf YN
    (repeat (first|refine lh ?_|refine lg ?_|refine kZ ?_);(try simp only [Act.put,List.setIfInBounds_toArray,List.set_cons_zero,List.set_cons_succ]))
    refine jk ?_ (fun K hK=>?_)
    (focus (first|exact bM rfl _|exact eK rfl rfl rfl rfl))
    go_simp;refine hK _ _ ?_;clear hK K;refine jU ?_;go_wp2_with fail;go_roundg (xs-(k+1))
    case measure=>omega
    case rel=>exact⟨k+1,ai,rfl,by go_num,ag ⟨_,_,by rw [Bh];exact HST.later BG⟩⟩
   ·obtain rfl:k=xs:=ai;rw [List.take_length]at HXS;have hbW:aq w2 wr:=aF sL HA.below sL.size;have YO:aq w w2:=aF GG oL GG.size;have k3:=(HA.below.block _ (by have:=HZ3.out;omega)).trans Ug;obtain⟨y0,y1,y2,y3,y4,y5,y6,y7,yf⟩:=cU k3;have TC:=HP.2.2.2.2.1;rw [HXS]at TC;obtain⟨gm,-⟩:=HA.md wr (Only.refl _ _);obtain⟨_,_,ge,g1,g2⟩:=gm;injection ge with ge;simp only [Array.mk.injEq,List.cons.injEq,and_true]at ge;obtain⟨ge1,-,ge2⟩:=ge;rw [<-ge1]at g1;rw [<-ge2]at g2;have HBI:=ag (ME (fl:=X.m.fl) (HP.2.2.2.1 wr ((aQ.of hbW aO).trans (aQ.refl _ _))) (fun s hs=>by have:=lS TC.st.may s hs;omega) g1 g2);rw [zQ TC.st.may TC.fl TC.ns TC.st.book,decide_eq_true rfl]at HBI;have MT:=ag (aF YO hbW YO.size);clear TC g1 g2 ge1 ge2 k3 hbW YO;go_wp2_with (go_at_call 9;(with_reducible refine HBI.out.mono ?_);rintro e w9 ⟨rfl,kS⟩);go_ret;exact⟨rfl,aF MT kS MT.size⟩
 ·have hg:(500:Int)<(xs.length:Int):=ai;have HK:=ag OW;go_enter Tryz.func3,Tryz.ntmps3;go_wp2_with (first|(at_builtin;refine wpList_plain rfl fun _ hK=>?_;refine gu (.const (az 0 0)) (.tmp 11) rfl i0 z Tryz.underlying22 lu.1 lu.2.1 lu.2.2.1 lu.2.2.2.1 lu.2.2.2.2 bY bY rh _ xs (JD _) rfl rfl (HX _ (aW _ _)) ?_;intro v1 w1 tW hb1;refine hK _ _ ?_;obtain⟨a1,c1,rfl⟩:=aU tW;have GG:=ag hb1;have HRU:=ag (QC (ao:=a1) (cap:=c1) (w:=w1) (show 500<xs.length by omega));clear tW hb1)|(go_at_call 5;(with_reducible refine HRU.out.mono ?_);rintro e w2 ⟨hb2,rfl⟩;have oL:=ag hb2;clear hb2)|(go_at_call 6;(with_reducible refine(HK.out _).mono ?_);rintro e w4 ⟨rfl,hb4⟩));go_ret;have hb2:=aF GG oL GG.size;have hb3:=hb2.alloc hb2.size (.cells cz 30);exact⟨rfl,aF hb3 hb4 hb3.size⟩
end Go.Proofs.YtmljjfhgciaceaaGreatDoor
