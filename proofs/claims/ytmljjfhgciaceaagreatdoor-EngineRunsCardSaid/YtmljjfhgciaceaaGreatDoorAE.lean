/- Lemmas of the proof. -/
import Derived.Test.YtmljjfhgciaceaaGreatDoorHd
import Derived.Test.YtmljjfhgciaceaaGreatDoorCz
import Derived.Test.YtmljjfhgciaceaaGreatDoorAK
import Derived.Test.YtmljjfhgciaceaaGreatDoorEX
import Derived.Test.YtmljjfhgciaceaaGreatDoorEG
import Derived.Test.YtmljjfhgciaceaaGreatDoorFX
import Derived.Test.YtmljjfhgciaceaaGreatDoorDK
import Derived.Test.YtmljjfhgciaceaaGreatDoorEB
import Derived.Test.YtmljjfhgciaceaaGreatDoorRefAdd
import Derived.Test.YtmljjfhgciaceaaGreatDoorTG
import Derived.Deep.CutBlock
import Derived.Test.YtmljjfhgciaceaaGreatDoorTopR
import Derived.Test.YtmljjfhgciaceaaGreatDoorKG
import Derived.Test.YtmljjfhgciaceaaGreatDoorBK
import Derived.Test.YtmljjfhgciaceaaGreatDoorOB
set_option maxRecDepth 100000
set_option maxHeartbeats 4000000
namespace Go.Proofs.YtmljjfhgciaceaaGreatDoor
open Go.RowKit Go.ChangeShapes Go.WideShapes Go.ChangeAt Go.Deep
def pd (w:World) (v:Value) (m:Mo):Prop:=∃nv lv,v = .agg #[nv,af m.fl,lv]/\fX w nv m.ns/\cX w lv m.L
theorem pd.below {w w':World} {v:Value} {m:Mo} (h:pd w v m) (hb:aq w w'):pd w' v m:=by
 obtain⟨nv,lv,rfl,h1,h2⟩:=h;exact⟨nv,lv,rfl,h1.below hb aO,h2.below hb aO⟩
structure G1 (w:World) (m:Mo) (nv lv:Value) (ob k:Nat) (sn:Option Addr) (sc:Nat) (g:Nat->Option Addr) (n c:Nat->Nat) (r:Nat->Int) (T:Nat->Tr) (wr:World):Prop where
 below:aq w wr
 lo:w+2<=ob
 box:wr.heap[w.heap.size]?=some (.cells #[nv,af m.fl,lv] 37)
 res:wr.heap[w.heap.size+1]?=some (.cells cz 30)
 out:wr.heap[ob]?=some (.cells #[ah sn m.ns sc,ah (g 0) (n 0) (c 0),af (r 0),ah (g 1) (n 1) (c 1),af (r 1),ah (g 2) (n 2) (c 2),af (r 2),af m.fl] 30)
 names:∀w'',Kp (w+2) ob wr w''->fX w'' (ah sn m.ns sc) m.ns
 tr:∀j,j<k->allT (T j)=some (Go.Proofs.YtmljjfhgciaceaaGreatDoor.pH (m.L.map (bucket (bp j))))/\∀w'',Kp (w+2) ob wr w''->di w'' (.agg #[ah (g j) (n j) (c j),af (r j)]) (T j)
section
variable {w:World} {m:Mo} {nv lv:Value} {ob k:Nat} {sn:Option Addr} {sc:Nat} {g:Nat->Option Addr} {n c:Nat->Nat} {r:Nat->Int} {T:Nat->Tr} {wr wx:World}
theorem G1.lt (h:G1 w m nv lv ob k sn sc g n c r T wr):ob<wr:=(eJ.1 h.out).1
theorem G1.later (h:G1 w m nv lv ob k sn sc g n c r T wr) (hb:aq wr wx):G1 w m nv lv ob k sn sc g n c r T wx:=by
 have hk:=Kp.of (lo:=w.heap.size+2) (ob:=ob) hb aO;have hl:=h.lt;have hlo:=h.lo;exact⟨aF h.below hb h.below.size,h.lo,(hb.block _ ai).trans h.box,(hb.block _ ai).trans h.res,(hb.block _ hl).trans h.out,fun w'' hw=>h.names w'' (hk.trans hw),fun j hj=>⟨(h.tr j hj).1,fun w'' hw=>(h.tr j hj).2 w'' (hk.trans hw)⟩⟩
theorem G1.at (h:G1 w m nv lv ob k sn sc g n c r T wr) (hk:k<3):(∃u,wr.cell? (ob,1+k*2)=some u)/\(∃u,wr.cell? (ob,1+k*2+1)=some u)/\∀o,wr.frozen? ⟨ob,o,none⟩=false:=by
 have h1:=h.out;obtain rfl|rfl|rfl:k=0\/k=1\/k=2:=ai
 all_goals simp [World.cell?,World.frozen?,h1]
theorem G1.step {so:Option Addr} {nn cc:Nat} {t':Tr} {wc:World} (h:G1 w m nv lv ob k sn sc g n c r T wr) (hk3:k<3) (hc:aq wr wc) (hb:aq wc wx)
  (htr:∀w'',aQ wc wx w''->bn w'' (ah so nn cc) t'.nodes) (hm:allT t'=some (Go.Proofs.YtmljjfhgciaceaaGreatDoor.pH (m.L.map (bucket (bp k))))) :
  G1 w m nv lv ob (k+1) sn sc (upd g k so) (upd n k nn) (upd c k cc) (upd r k t'.root) (upd T k t') ((wx.setCell (ob,1+k*2) (ah so nn cc)).setCell (ob,1+k*2+1) (af t'.root)):=by
 have hx:=h.later (aF hc hb hc.size);have hl:=h.lt;have hlo:=h.lo;have hcs:=hc.size;have hk:Kp (w+2) ob wx ((wx.setCell (ob,1+k*2) (ah so nn cc)).setCell (ob,1+k*2+1) (af t'.root)):=((Kp.refl _ _ _).set _).set _;have ho:∀q,q≠ob->((wx.setCell (ob,1+k*2) (ah so nn cc)).setCell (ob,1+k*2+1) (af t'.root)).heap[q]?=wx.heap[q]?:=fun q hq=>(cH _ ⟨ob,_,none⟩ q _ hq).trans (cH _ ⟨ob,_,none⟩ q _ hq);refine⟨(hx.below.setCell (by show w<=ob;omega) _).setCell (by show w<=ob;omega) _,hlo,(ho _ ai).trans hx.box,(ho _ ai).trans hx.res,?_,fun w'' hw=>hx.names w'' (hk.trans hw),fun j hj=>?_⟩
 ·have h1:=aM (off:=1+k*2+1) (v:=af t'.root) (aM (off:=1+k*2) (v:=ah so nn cc) hx.out);rw [h1];obtain rfl|rfl|rfl:k=0\/k=1\/k=2:=ai
  all_goals simp [upd]
 ·by_cases hjk:j=k
  ·subst hjk;rw [iq,iq,iq,iq,iq];exact⟨hm,fun w'' hw=>⟨_,rfl,htr w'' ((hk.trans hw).keep ai ai)⟩⟩
  ·rw [upd_ne _ _ hjk,upd_ne _ _ hjk,upd_ne _ _ hjk,upd_ne _ _ hjk,upd_ne _ _ hjk];obtain⟨q1,q2⟩:=hx.tr j ai;exact⟨q1,fun w'' hw=>q2 w'' (hk.trans hw)⟩
theorem G1.base (h:G1 w m nv lv ob 3 sn sc g n c r T wr):r 0=(T 0).root/\r 1=(T 1).root/\r 2=(T 2).root/\∀w'',Kp (w+2) ob wr w''->bR w'' (.agg (aL sn m.ns sc (g 0) (n 0) (c 0) (g 1) (n 1) (c 1) (g 2) (n 2) (c 2) ⟨m.ns,T 0,T 1,T 2,m.fl⟩)) ⟨m.ns,T 0,T 1,T 2,m.fl⟩:=by
 have key:∀j,j<3->∀w'',Kp (w+2) ob wr w''->r j=(T j).root/\bn w'' (ah (g j) (n j) (c j)) (T j).nodes:=fun j hj w'' hw=>by
  obtain⟨nv,e,hn⟩:=(h.tr j hj).2 w'' hw;simp only [Value.agg.injEq,Array.mk.injEq,List.cons.injEq,Value.int.injEq,and_true,true_and]at e;exact⟨e.2,e.1▸hn⟩
 have k0:=key 0 bY;have k1:=key 1 bY;have k2:=key 2 bY;exact⟨(k0 wr (Kp.refl _ _ _)).1,(k1 wr (Kp.refl _ _ _)).1,(k2 wr (Kp.refl _ _ _)).1,fun w'' hw=>⟨_,_,_,_,rfl,h.names w'' hw,(k0 w'' hw).2,(k1 w'' hw).2,(k2 w'' hw).2⟩⟩
theorem G1.start {B:Nat} (hb:aq w wx) (hx1:wx.heap[w.heap.size]?=some (.cells #[nv,af m.fl,lv] 37)) (hx2:wx.heap[w.heap.size+1]?=some (.cells cz 30))
  (ho:wx.ownsRow B 9 1 (ah sn m.ns sc) m.ns (m.ns.flatMap jN)) (ni:wx.heap[ob]?=some (.cells cz 30)) (hlo:w+2<=ob) (hBl:w+2<=B) (hne:∀g,(ah sn m.ns sc).ownBlock=some g->g≠ob) (hnl:m.ns.length<=16) :
  G1 w m nv lv ob 0 sn sc (fun _=>none) (fun _=>0) (fun _=>0) (fun _=>0) T ((((((((wx.setCell (ob,0) (ah sn m.ns sc)).setCell (ob,1) (az 0 0)).setCell (ob,2) (af 0)).setCell (ob,3) (az 0 0)).setCell (ob,4) (af 0)).setCell (ob,5) (az 0 0)).setCell (ob,6) (af 0)).setCell (ob,7) (af m.fl)):=by
 have hk:Kp (w+2) ob wx ((((((((wx.setCell (ob,0) (ah sn m.ns sc)).setCell (ob,1) (az 0 0)).setCell (ob,2) (af 0)).setCell (ob,3) (az 0 0)).setCell (ob,4) (af 0)).setCell (ob,5) (az 0 0)).setCell (ob,6) (af 0)).setCell (ob,7) (af m.fl)):=
  ((((((((Kp.refl _ _ _).set _).set _).set _).set _).set _).set _).set _).set _
 have hl:w<=ob:=ai;refine⟨(((((((hb.setCell hl _).setCell hl _).setCell hl _).setCell hl _).setCell hl _).setCell hl _).setCell hl _).setCell hl _,hlo,(dZ ai).trans hx1,(dZ ai).trans hx2,kr ni,fun w'' hw=>ct.owned dD (bJ ho fun g hg=>(hk.trans hw).block g (by have:=(ho.lt g hg).1;omega) (hne g hg) (ho.lt g hg).2) rfl ai,fun j hj=>ai⟩
end
theorem Fit.len {ns:List ByteArray} {fl:Int} {l:List aH} (h:Fit ns fl l) (k:Nat):(Go.Proofs.YtmljjfhgciaceaaGreatDoor.pH (l.map (bucket (bp k)))).length<=l:=by
 have hb:=eF (eB k) h.good;have hr:=h.rolled k;unfold bw at hr;obtain⟨-,-,-,h4,-⟩:=fL hb.1 hr;rw [oX]at h4;exact h4
theorem MB {v:Value} {m:Mo} {w:World} (h:pd w v m) (hf:Fit m.ns m.fl m.L) (hl:m.L.length<=1000) :
  Calls Tryz.prog 19 #[v] w fun e w'=>aq w w'/\∃v' b,e = .returned v'/\bR w' v' b/\b.names=m.ns/\b.floor=m.fl/\aS b=true/\cx b=some m.L:=by
 obtain⟨nv,lv,rfl,hn,hL⟩:=h;obtain⟨na,nc,rfl⟩:=hn.isSlice;obtain⟨la,lc,rfl⟩:=hL.isSlice;obtain⟨W0,hW0⟩:=cd ((w.alloc (.cells #[ah na m.ns nc,af m.fl,ah la m.L lc] 37)).alloc (.cells cz 30));have hb0:aq w W0:=by rw [hW0];exact aj
 have k0:W0.heap[w.heap.size]?=some (.cells #[ah na m.ns nc,af m.fl,ah la m.L lc] 37):=by rw [hW0,gy _ _ _ bh];exact au _ _ rfl
 have k1:W0.heap[w.heap.size+1]?=some (.cells cz 30):=by rw [hW0];exact au _ _ bh
 have z0:W0=w.heap.size+2:=by rw [hW0];simp
 have HN:=ag fun W (hb:aq w W)=>hn.below hb aO;have HL:=ag fun W (hb:aq w W)=>hL.below hb aO;have HF:=ag (aJ hf hl);have Kq:=hf.n16;obtain⟨y0,y1⟩:W0.cell? (w,0)=some (ah na m.ns nc)/\(W0,w.heap.size,1,m.fl):=by simp [World.cell?,k0]
 have G0:=ag hb0;have MO:=ag (aJ k0 k1);have HZ:=ag z0;clear hn hL hf hb0 k0 k1 z0;go_enter Tryz.func19,Tryz.ntmps19;go_upto_region 1 with (fail);rw [<-hW0];clear hW0;go_cut [3] (fun p wx=>∃(ob:Nat) (sn:Option Addr) (sc:Nat),p = .pointer (some (ob,0))/\Hid (G1 w m (ah na m.ns nc) (ah la m.L lc) ob 0 sn sc (fun _=>none) (fun _=>0) (fun _=>0) (fun _=>0) (fun _=>lU []) wx))
 case first=>
  obtain⟨ii,iz,i1,i2,i3,i4,i5⟩:=cG Tryz.U1;have lu:=ag (aJ i1 (aJ i2 (aJ i3 (aJ i4 i5))));clear i1 i2 i3 i4 i5;have HS:=ag fun(W:World) (hb:aq W0 W)=>(by
   have e:=(hb.block w (by have:=HZ.out;omega)).trans MO.1;simp [World.cell?,e]:W.cell? (w,0)=some (ah na m.ns nc)/\(W,w.heap.size,1,m.fl))
  refine jR (tK.of [(0,1),(1,0),(3,1),(4,0)] (.fork 2 6 (tK.of [(5,1),(6,2),(7,3)] .nil) (tK.of [(2,2),(5,1),(7,3)] .nil))) 7
   (fun W=>W.cell? ⟨w.heap.size,0,none⟩=some (.slice na m.ns.length nc)/\W.cell? ⟨w.heap.size,1,none⟩=some (.int .i64 m.fl)) cV cV ⟨y0,y1⟩ ?_
  clear y0 y1;simp only [tK.of]
  (repeat first|refine gZ ?_|refine gY ?_)
  have GU:aq W0 W0.drew:=(aW _ _).drew;refine rZ rfl rfl rfl rfl (fun K hK=>?_) (fun K hK=>?_)
  ·refine gu (.const (az 0 0)) (.tmp 8) rfl ii iz Tryz.underlying24 lu.1 lu.2.1 lu.2.2.1 lu.2.2.2.1 lu.2.2.2.2 bY bY dD _ m.ns (sw _) rfl rfl (HN _ (aF G0 GU G0.size)) ?_;intro v2 w2 hown hb2;obtain⟨sn,sc,rfl⟩:=aU hown;have qo:aq W0 w2:=aF GU hb2 aO;refine hK _ _ (HS _ qo) ?_;clear hK K;obtain⟨W3,hW3⟩:=cd (w2.alloc (.cells cz 30));have hb3:aq w2 W3:=by rw [hW3];exact aj
   have k3:W3.heap[w2.heap.size]?=some (.cells cz 30):=by rw [hW3];exact au _ _ rfl
   have sL:=ag (aJ qo hb3);have HO:=ag hown;have Ug:=ag k3;clear hown hb2 hb3 qo GU
   (repeat first|refine gZ ?_|refine gY ?_)
   refine gq rfl rfl (fun K hK=>?_);go_simp;rw [<-hW3];obtain⟨c0,c1,c2,c3,c4,c5,c6,c7,cf⟩:=cU k3;refine hK _ _ (HS _ (aF sL.1 sL.2 sL.1.size)) ?_;clear hK K hW3 k3
   (repeat first|refine gZ ?_|refine gY ?_)
   refine jC rfl rfl (fun K hK=>?_);go_simp;refine hK _ _ ?_;clear hK K;refine kT ?_;go_wp2_with fail;go_meet;obtain⟨g1,g2⟩:=sL.out;have g3:aq W0 W3:=aF g1 g2 g1.size;have hz:=HZ.out;have hs1:=g1.size;exact⟨w2.heap.size,sn,sc,rfl,ag (G1.start (aF G0 g3 G0.size) ((g3.block _ ai).trans MO.1) ((g3.block _ ai).trans MO.2) (cL HO g2) Ug ai (by show w+2<=W0.heap.size;omega) (fun g hg e=>by have:=(HO.lt g hg).2;omega) Kq)⟩
  ·go_simp;obtain⟨W2,hW2⟩:=cd ((W0.alloc (.cells cz 30)).drew);have hb2:aq W0 W2:=by rw [hW2];exact aj
   have k2:W2.heap[W0.heap.size]?=some (.cells cz 30):=by rw [hW2];exact au _ _ rfl
   have z2:W2=W0.heap.size+1:=by rw [hW2];simp
   rw [<-hW2];refine hK _ _ (HS _ hb2) ?_;clear hK K hW2 GU
   (repeat first|refine gZ ?_|refine gY ?_)
   refine gq rfl rfl (fun K hK=>?_);refine gu (.const (az 0 0)) (.tmp 8) rfl ii iz Tryz.underlying24 lu.1 lu.2.1 lu.2.2.1 lu.2.2.2.1 lu.2.2.2.2 bY bY dD _ m.ns (sw _) rfl rfl (HN _ (aF G0 hb2 G0.size)) ?_;intro v3 w3 hown hb3;obtain⟨sn,sc,rfl⟩:=aU hown;have Jc:aq W0 w3:=aF hb2 hb3 hb2.size;have k3:=(hb3.block W0 ai).trans k2;refine hK _ _ (HS _ Jc) ?_;clear hK K;have sL:=ag (aJ Jc (aJ hown (aJ k3 z2)));obtain⟨c0,c1,c2,c3,c4,c5,c6,c7,cf⟩:=cU k3;clear hown hb2 hb3 Jc k2 k3 z2
   (repeat first|refine gZ ?_|refine gY ?_)
   refine jC rfl rfl (fun K hK=>?_);go_simp;refine hK _ _ ?_;clear hK K;refine kT ?_;go_wp2_with fail;go_meet;obtain⟨g1,g2,g3,g4⟩:=sL.out;have hz:=HZ.out;exact⟨W0.heap.size,sn,sc,rfl,ag (G1.start (aF G0 g1 G0.size) ((g1.block _ ai).trans MO.1) ((g1.block _ ai).trans MO.2) g2 g3 ai ai (fun g hg e=>by have:=(g2.lt g hg).1;omega) Kq)⟩
 case rest=>
  obtain⟨ob,sn,sc,rfl,HA0⟩:=hcut;clear y0 y1 MO;go_upto_region 3 with (fail)
  go_loopg [4] 3 (fun gg i wr=>∃k,k<=3/\gg=3-k/\i=af (k:Nat)/\Hid (∃g n c r T,G1 w m (ah na m.ns nc) (ah la m.L lc) ob k sn sc g n c r T wr))
  case atStart=>exact⟨0,ai,rfl,rfl,ag ⟨_,_,_,_,_,HA0.out⟩⟩
  case round=>
   clear HA0;obtain⟨k,hk,rfl,rfl,HR⟩:=hrel;obtain⟨g,n,c,r,T,hA⟩:=HR.out;have HA:=ag hA;clear HR;by_cases hlt:k<3
   ·have tz:(k:Int)<3:=ai;have F5:=hA.box;have hbl:=hA.below;have hlo:=hA.lo;have ni:=hA.lt;have HS:=ag fun(W:World) (hb:aq wr W)=>(by
     have e:=(hb.block w ai).trans F5;simp [World.cell?,e]:W.cell? (w,2)=some (ah la m.L lc))
    have ry:=ag (nG k hlt);have rM:=ag fun W (hb:aq w W)=>pY (size:=bp k) (HL W hb) HF.1.good (eB k) (by unfold bp;split;decide;split <;> decide)
    rw [HF.1.rolled k]at rM;have hes:=HF.1.pH k;have hel:=HF.1.len k;have RJ:=HF.2;obtain⟨es,hE⟩:=bG (Go.Proofs.YtmljjfhgciaceaaGreatDoor.pH (m.L.map (bucket (bp k))));rw [hE]at rM hes hel;have HE:=ag (aJ hes (aJ hE hel));have DU:=ag hbl;clear hA F5 hes hE hbl;go_upto_region 5 with (fail);refine bN [(0,1),(1,0),(2,1),(3,2),(4,2),(5,1),(6,1),(7,1),(8,1),(9,3)] 9 (fun W=>W.cell? (w,2)=some (ah la m.L lc)) cV cV (HS _ (aW _ _).drew) ?_
    (simp only [bV,List.filterMap_cons,List.filterMap_nil,List.getElem?_cons_zero,List.getElem?_cons_succ,Option.map_some])
    (repeat first|refine bg ?_|refine aZ ?_)
    have GU:aq wr wr.drew:=(aW _ _).drew;refine aP rfl (fun K hK=>?_);go_simp
    (with_reducible refine(ry.out _).mono ?_);rintro e w5 ⟨rfl,cy⟩
    have yG:aq wr w5:=aF GU cy aO;go_simp;refine hK _ _ (HS _ yG) ?_;clear hK K GU cy
    (repeat first|refine bg ?_|refine aZ ?_)
    refine aP rfl (fun K hK=>?_);go_simp
    (with_reducible refine(rM.out _ (aF DU.out yG DU.out.size)).mono ?_);rintro e w6 ⟨ji,v6,rfl,sM⟩
    obtain⟨s6,c6,rfl⟩:=sM.isSlice;have YQ:aq wr w6:=aF yG ji yG.size;go_simp;refine hK _ _ (HS _ YQ) ?_;clear hK K yG ji;have pM:=ag YQ;have VU:=ag (Sn (sM.at ai) HE.1.1.1 HE.1.2.1 HE.1.1.2.1 (by have:=HE.2.2;omega));clear YQ sM
    (repeat first|refine bg ?_|refine aZ ?_)
    refine bq rfl (fun K hK=>?_);go_simp;refine hK _ _ ?_;clear hK K;refine cC ?_;go_upto_region 4 with (go_at_call 45;(with_reducible refine VU.out.mono ?_);rintro e w7 ⟨ow,fo,fc,t,rfl,hN7,hf7,ha7⟩;have HX7:=ag (aJ ow (aJ hN7 (aJ hf7 ha7)));obtain⟨⟨u1,x1⟩,⟨u2,x2⟩,xf⟩:=((HA.later pM).later ow).at hlt;clear ow hN7 hf7 ha7);clear x1 x2 xf;go_wp2_with fail;go_roundg (3-(k+1))
    case measure=>omega
    case rel=>
     obtain⟨q1,q2,q3,q4⟩:=HX7.out;exact⟨k+1,ai,rfl,by go_num,ag ⟨_,_,_,_,_,HA.step hlt pM q1 q2 (by rw [Mb q3 q4 HE.1.2.1 HE.1.1,HE.2.1])⟩⟩
   ·obtain rfl:k=3:=ai;have hres:=hA.res;have hout:=hA.out;obtain⟨e0,e1,e2,hB⟩:=hA.base;rw [e0,e1,e2]at hout;obtain⟨d0,d1,d2,d3,d4,d5,d6,d7,df⟩:=cU hout;obtain⟨z0,z1,z2,z3,z4,z5,z6,z7,zf⟩:=cU hres;have HB:=ag hB;have DU:=ag hA.below;have hF:=HF.1.base (T:=T) fun k hk=>(HA.tr k hk).1;have HFB:=ag hF;have hlo:=hA.lo;clear hA hres hout e0 e1 e2 hB hF;go_wp2_with fail;have cT:=DU.out;refine bW (v:= .agg #[ah sn m.ns sc,ah (g 0) (n 0) (c 0),af (T 0).root,ah (g 1) (n 1) (c 1),af (T 1).root,ah (g 2) (n 2) (c 2),af (T 2).root,af m.fl]) (by simp [results,Tryz.results19,go_sem, *]) rfl ⟨aj,_,⟨m.ns,T 0,T 1,T 2,m.fl⟩,rfl,HB _ ?_,rfl,rfl,HFB.1,HFB.2⟩
    repeat (first|with_reducible exact Kp.refl _ _ _|with_reducible refine Kp.low ?_ ai _)
section
variable {b:Ba} {m:Mo} {N:Nat}
theorem Kn.add {L:List aH} {s:ByteArray} {time value:Int} (h:Kn b L N) (hN:N<=2900) (hF:gK b s time value=0) :
  fU b s time value=0/\xB b s time value=ins L (cW b s time ⟨1,value,value,value,time,value⟩):=by
 obtain⟨-,-,-,h0,h1,h2,h3,-⟩:=kE hF;have hS:∀k,k<3->Small (j6 b s time value k::(b.tree k).all):=fun k hk=>by
  obtain⟨l,hl,-,-,ht⟩:=qq h.may;obtain rfl:l=L:=dh (hl.symm.trans h.book);obtain⟨t1,t2,t3⟩:=ht k hk;have hg:(j6 b s time value k).is.Good:=(dC (lQ h0 h1 h2 h3) (by show (1:Int)≠0;decide)).1;have e1:jv ([j6 b s time value k]++(b.tree k).all) ([j6 b s time value k]++l.map (bucket (bp k))):=(jv.refl (fun e he=>by rw [oY]at he;subst he;exact hg)).append t2;refine e1.small.2 (nV e1.2.1 ?_);rw [AQ,rq];have hc:=h.gw;have:Go.Proofs.YtmljjfhgciaceaaGreatDoor.gw [j6 b s time value k]=1:=by simp [Go.Proofs.YtmljjfhgciaceaaGreatDoor.gw,j6]
  omega
 obtain⟨g1,g2,-⟩:=vY hF h.book hS;exact⟨g1,g2⟩
theorem Ku.Zn (h:Ku b m N) (hN:N<=2900) (s:ByteArray) (t v:Int):fU b s t v=m.fU s t v/\(m.fU s t v=0->bH b s=(m.add s t v).ns/\xB b s t v=(m.add s t v).L):=by
 have hA:=h.J0 s t v;by_cases h0:m.fU s t v=0
 ·obtain⟨g1,g2⟩:=h.kn.add hN (hA.trans h0);refine⟨g1.trans h0.symm,fun _=>⟨by rw [uT,h.ns];rfl,?_⟩⟩;rw [g2];unfold cW;rw [Gs,h.ns];rfl
 ·refine⟨?_,fun h1=>absurd h1 h0⟩;unfold fU;rw [aw (by rw [hA];exact h0),hA]
theorem Ku.Za (h:Ku b m N) (t:Int):kU b t=m.xo t/\(m.xo t=0->zN b t=(m.exp t).L):=by
 obtain⟨h1,h2⟩:=h.Jt t;refine⟨h1,fun h0=>?_⟩;unfold zN;rw [aw (h1.trans h0),h2]
end
section
variable {o:Nat}
abbrev oO:Array Value:=#[az 0 0,af 0,az 0 0]
abbrev sO:Array Value:=#[af 0,af 0,af 0,af 0,af 0,af 0,af 0,az 0 0]
structure GM (w:World) (m1 m2:Array Value) (a:Ac) (q:Array Value) (W:World):Prop where
 below:aq w W
 size:w+7<=W.heap.size
 bm:W.heap[w.heap.size]?=some (.cells m1 37)
 bs:W.heap[w.heap.size+1]?=some (.cells m2 37)
 ba:W.heap[w.heap.size+2]?=some (.cells a.cs 46)
 z1:W.heap[w.heap.size+3]?=some (.cells oO 37)
 z2:W.heap[w.heap.size+4]?=some (.cells oO 37)
 z3:W.heap[w.heap.size+5]?=some (.cells sO 42)
 an:W.heap[w.heap.size+6]?=some (.cells q 42)
section
variable {w W W':World} {m1 m2 q:Array Value} {a:Ac}
theorem GM.later (h:GM w m1 m2 a q W) (hb:aq W W'):GM w m1 m2 a q W':=by
 have hs:=h.size;exact⟨aF h.below hb h.below.size,fZ hs hb.size,(hb.block _ ai).trans h.bm,(hb.block _ ai).trans h.bs,(hb.block _ ai).trans h.ba,(hb.block _ ai).trans h.z1,(hb.block _ ai).trans h.z2,(hb.block _ ai).trans h.z3,(hb.block _ ai).trans h.an⟩
theorem GM.TQ (h:GM w m1 m2 a q W):(W,w.heap.size+2,0,a.k)/\W.cell? (w,2,1)=some (.string a.s)/\(W,w.heap.size+2,2,a.t)/\(W,w.heap.size+2,3,a.z)/\(W,w.heap.size+2,4,a.sz)/\(W,w.heap.size+2,5,a.v):=by
 have h1:=h.ba;simp [World.cell?,h1]
theorem GM.xQ {v:Value} (h:GM w m1 m2 a q W):GM w m1 m2 a (q.setIfInBounds o v) (W.setCell (w,6,o) v):=by
 have ho:∀b,b≠w.heap.size+6->(W.setCell (w,6,o) v).heap[b]?=W.heap[b]?:=fun b hb=>cH _ ⟨w.heap.size+6,_,none⟩ b _ hb;exact⟨h.below.setCell (by show w<=w.heap.size+6;omega) _,by simp only [aG];exact h.size,(ho _ ai).trans h.bm,(ho _ ai).trans h.bs,(ho _ ai).trans h.ba,(ho _ ai).trans h.z1,(ho _ ai).trans h.z2,(ho _ ai).trans h.z3,aM h.an⟩
theorem GM.FJ {v:Value} (h:GM w m1 m2 a q W):GM w (m1.setIfInBounds o v) m2 a q (W.setCell (w,o) v):=by
 have ho:∀b,b≠w.heap.size->(W.setCell (w,o) v).heap[b]?=W.heap[b]?:=fun b hb=>cH _ ⟨w.heap.size,_,none⟩ b _ hb;exact⟨h.below.setCell aO _,by simp only [aG];exact h.size,aM h.bm,(ho _ ai).trans h.bs,(ho _ ai).trans h.ba,(ho _ ai).trans h.z1,(ho _ ai).trans h.z2,(ho _ ai).trans h.z3,(ho _ ai).trans h.an⟩
theorem GM.Xz {v:Value} (h:GM w m1 m2 a q W):GM w m1 (m2.setIfInBounds o v) a q (W.setCell (w,1,o) v):=by
 have ho:∀b,b≠w.heap.size+1->(W.setCell (w,1,o) v).heap[b]?=W.heap[b]?:=fun b hb=>cH _ ⟨w.heap.size+1,_,none⟩ b _ hb;exact⟨h.below.setCell (by show w<=w.heap.size+1;omega) _,by simp only [aG];exact h.size,(ho _ ai).trans h.bm,aM h.bs,(ho _ ai).trans h.ba,(ho _ ai).trans h.z1,(ho _ ai).trans h.z2,(ho _ ai).trans h.z3,(ho _ ai).trans h.an⟩
theorem GM.start {A B:Array Value}:GM w A B a sO (((((((w.alloc (.cells A 37)).alloc (.cells B 37)).alloc (.cells a.cs 46)).alloc (.cells oO 37)).alloc (.cells oO 37)).alloc (.cells sO 42)).alloc (.cells sO 42)):=by
 refine⟨aj,bh,?_,?_,?_,?_,?_,?_,au _ _ bh⟩
 ·iterate 6 refine(gy _ _ _ np).trans ?_
  exact au _ _ bh
 ·iterate 5 refine(gy _ _ _ np).trans ?_
  exact au _ _ bh
 ·iterate 4 refine(gy _ _ _ np).trans ?_
  exact au _ _ bh
 ·iterate 3 refine(gy _ _ _ np).trans ?_
  exact au _ _ bh
 ·iterate 2 refine(gy _ _ _ np).trans ?_
  exact au _ _ bh
 ·iterate 1 refine(gy _ _ _ np).trans ?_
  exact au _ _ bh
theorem eP {b x0 x1 x2:_} {T:TypeId} (h:W.heap[b]?=some (.cells #[x0,x1,x2] T)):W.cell? (b,0)=some x0/\W.cell? (b,1)=some x1/\W.cell? (b,2)=some x2/\∀o,W.frozen? ⟨b,o,none⟩=false:=by
 simp [World.cell?,World.frozen?,h]
end
def AoE (w:World) (mv sv:Value) (m s:Mo) (a:Ac) (W:World):Prop:=∃nv lv fl UH lv2 Sp,∃q:uf,GM w #[nv,af fl,lv] #[UH,af Sp,lv2] a q.cs W/\(∀w'',aQ (w+7) W w''->pd w'' mv m->pd w'' sv s->pd w'' (.agg #[nv,af fl,lv]) (dP ⟨m,s⟩ a).m/\pd w'' (.agg #[UH,af Sp,lv2]) (dP ⟨m,s⟩ a).s/\cX w'' q.v q.an.rows)/\q.an=gH ⟨m,s⟩ a
end
theorem J1 {mv sv:Value} {m s:Mo} {a:Ac} {N:Nat} {w:World} (hm:pd w mv m) (hs:pd w sv s) (ho:m.Ok N) (hN:N<=500) (hz:a.s.size<=140737488351232) :
  Calls Tryz.prog 7 #[mv,sv, .agg a.cs] w fun e w'=>aq w w'/\∃mv' sv',∃q:uf,e = .returned (.tuple #[mv',sv', .agg q.cs])/\q.an=gH ⟨m,s⟩ a/\∀w'',aQ w w' w''->pd w'' mv m->pd w'' sv s->pd w'' mv' (dP ⟨m,s⟩ a).m/\pd w'' sv' (dP ⟨m,s⟩ a).s/\cX w'' q.v q.an.rows:=by
 have HM:=ag fun W (hb:aq w W)=>hm.below hb;have HS:=ag fun W (hb:aq w W)=>hs.below hb;obtain⟨nv,lv,rfl,n1,n2⟩:=hm;obtain⟨UH,lv2,rfl,n3,n4⟩:=hs;obtain⟨na,nc,rfl⟩:=n1.isSlice;obtain⟨la,lc,rfl⟩:=n2.isSlice;obtain⟨Ij,Ig,rfl⟩:=n3.isSlice;obtain⟨Iz,Ix,rfl⟩:=n4.isSlice;clear n1 n2 n3 n4;obtain⟨W0,hW0⟩:=cd ((((((((w.alloc (.cells #[ah na m.ns nc,af m.fl,ah la m.L lc] 37)).alloc (.cells #[ah Ij s.ns Ig,af s.fl,ah Iz s.L Ix] 37)).alloc (.cells a.cs 46)).alloc (.cells oO 37)).alloc (.cells oO 37)).alloc (.cells sO 42)).alloc (.cells sO 42)));have h0:GM w #[ah na m.ns nc,af m.fl,ah la m.L lc] #[ah Ij s.ns Ig,af s.fl,ah Iz s.L Ix] a sO W0:=by rw [hW0];exact GM.start
 have Ew:=ag (MB (HM W0 h0.below) ho.fit (by have:=ho.len;omega));obtain⟨x0,x1,x2,xf⟩:=eP h0.bm;have H0:=ag h0;have HO:=ag ho;clear h0 ho;go_enter Tryz.func7,Tryz.ntmps7;go_upto_region 2 with (fail);rw [<-hW0];clear hW0;go_upto_region 3 with (go_at_call 19;(with_reducible refine Ew.out.mono ?_);rintro e w1 ⟨hb1,v',b,rfl,wJ,xj,hbf,hbm,hbk⟩;have HIK:=ag (show Ku b m N from ⟨⟨hbm,hbk,HO.gw⟩,xj,hbf⟩);have VZ:=ag wJ;have VN:=ag (show ∀s∈b.names,s.size<=140737488351232 from fun s hs=>by have:=lS hbm s hs;omega);obtain⟨sa,sc,g0,l0,p0,g1,l1,p1,g2,l2,p2,rfl,-⟩:=wJ.open;have GG:=ag hb1;clear wJ xj hbf hbm hbk hb1);rw [show w+1+1=w.heap.size+2 from rfl,show w+2+1=w.heap.size+3 from rfl,show w+3+1=w.heap.size+4 from rfl,show w+4+1=w.heap.size+5 from rfl,show w+5+1=w.heap.size+6 from rfl];obtain⟨W2,hW2⟩:=cd (w1.alloc (.cells (aL sa b.names sc g0 l0 p0 g1 l1 p1 g2 l2 p2 b) 30));have hb2:aq w1 W2:=by rw [hW2];exact aj
 have k2:W2.heap[w1.heap.size]?=some (.cells (aL sa b.names sc g0 l0 p0 g1 l1 p1 g2 l2 p2 b) 30):=by rw [hW2];exact au _ _ rfl
 have h2:=(H0.later GG).later hb2;have H2:=ag h2;have HB:=ag (VZ.below hb2);obtain⟨a0,a1,a2,a3,a4,a5⟩:=h2.TQ;clear x0 x1 x2 xf;obtain⟨x0,x1,x2,xf⟩:=eP h2.bm;obtain⟨s0,s1,s2,sf⟩:=eP h2.bs;obtain⟨q0,q1,q2,q3,q4,q5,q6,q7,qf⟩:=cU h2.an;obtain⟨y0,y1,y2,y3,y4,y5,y6,y7,yf⟩:=cU k2;have hz2:=h2.size;have HX:=ag (show ∀w'',aq w w''->pd w'' (.agg #[ah na m.ns nc,af m.fl,ah la m.L lc]) m/\pd w'' (.agg #[ah Ij s.ns Ig,af s.fl,ah Iz s.L Ix]) s from fun w'' hb=>⟨HM _ hb,HS _ hb⟩);rw [<-hW2];clear hW2 hb2 k2 h2;go_upto_block 0 with (fail);go_cut [11,12,13,14,15]from 21 to 102 (fun _ _ _ _ _ wx=>Hid (AoE w (.agg #[ah na m.ns nc,af m.fl,ah la m.L lc]) (.agg #[ah Ij s.ns Ig,af s.fl,ah Iz s.L Ix]) m s a wx))
 case first=>
  by_cases k1:a.k=1
  ·have d1:(a.k == 1)=true:=by simp [k1]
   have HAD:=ag (K2 (s:=a.s) (time:=a.t) (value:=a.v) HB VN hz);obtain⟨e1,e2⟩:=HIK.Zn ai a.s a.t a.v;by_cases h0:m.fU a.s a.t a.v=0
   ·have sJ:=ag (show dP ⟨m,s⟩ a=⟨m.add a.s a.t a.v,s⟩ by unfold dP;rw [aw k1,aw h0]);have qD:=ag (show (⟨0,ax.zero,[]⟩:An)=gH ⟨m,s⟩ a by unfold gH;rw [aw k1,h0]);rw [h0]at e1;have HE:=ag (aJ e1 (e2 h0));clear k1 e1 e2 h0;go_wp2_with (go_at_call 20;(with_reducible refine HAD.out.mono ?_);rintro e w3 ⟨hb3,no,nn,nc3,lo,ln,XO,rfl,hadd⟩;rw [HE.1];have HD:=ag (hadd HE.1);clear hadd;have h3:=H2.later hb3;clear x0 x1 x2 xf s0 s1 s2 sf a0 a1 a2 a3 a4 a5 q0 q1 q2 q3 q4 q5 q6 q7 qf y0 y1 y2 y3 y4 y5 y6 y7 yf;obtain⟨x0,x1,x2,xf⟩:=eP h3.bm;obtain⟨a0,a1,a2,a3,a4,a5⟩:=h3.TQ;obtain⟨q0,q1,q2,q3,q4,q5,q6,q7,qf⟩:=cU h3.an;have H3:=ag h3;have sL:=ag hb3;clear h3 hb3);go_meet;refine ag ⟨ah no nn nc3,ah lo ln XO,m.fl,ah Ij s.ns Ig,ah Iz s.L Ix,s.fl,⟨⟨0,ax.zero,[]⟩,none,0,0⟩,?_,fun w'' hk hm hs=>?_,qD⟩
    ·exact(((H3.xQ (o:=0) (v:=af 0)).FJ (o:=0) (v:=ah no nn nc3)).FJ (o:=1) (v:=af m.fl)).FJ (o:=2) (v:=ah lo ln XO)
    ·rw [sJ];obtain⟨g1,g2⟩:=HD w'' ((aQ.trans (show aQ (w+7) w3 _ from (((((aQ.refl _ _).set (by show w+6<w.heap.size+7;omega) _).set (by show w<w.heap.size+7;omega) _).set (by show w<w.heap.size+7;omega) _).set (by show w<w.heap.size+7;omega) _)) hk).mono hz2);rw [HE.2.1]at g1;rw [HE.2.2]at g2;exact⟨⟨_,_,rfl,g1,g2⟩,hs,ct.nil _ _ _ _⟩
   ·obtain⟨E,hE⟩:=bG (m.fU a.s a.t a.v);have sJ:=ag (show dP ⟨m,s⟩ a=⟨m,s⟩ by unfold dP;rw [aw k1,ar h0]);have qD:=ag (show (⟨E,ax.zero,[]⟩:An)=gH ⟨m,s⟩ a by unfold gH;rw [aw k1,hE]);rw [hE]at e1 h0;have dn:(E == 0)=false:=(by simp [h0]);have HE:=ag e1;clear k1 e1 e2 h0 hE;go_wp2_with (go_at_call 20;(with_reducible refine HAD.out.mono ?_);rintro e w3 ⟨hb3,no,nn,nc3,lo,ln,XO,rfl,-⟩;rw [HE];have h3:=H2.later hb3;clear x0 x1 x2 xf s0 s1 s2 sf a0 a1 a2 a3 a4 a5 q0 q1 q2 q3 q4 q5 q6 q7 qf y0 y1 y2 y3 y4 y5 y6 y7 yf;obtain⟨x0,x1,x2,xf⟩:=eP h3.bm;obtain⟨a0,a1,a2,a3,a4,a5⟩:=h3.TQ;obtain⟨q0,q1,q2,q3,q4,q5,q6,q7,qf⟩:=cU h3.an;have H3:=ag h3;have sL:=ag hb3;clear h3 hb3);go_meet;exact ag ⟨ah na m.ns nc,ah la m.L lc,m.fl,ah Ij s.ns Ig,ah Iz s.L Ix,s.fl,⟨⟨E,ax.zero,[]⟩,none,0,0⟩,H3.xQ (o:=0) (v:=af E),fun w'' _ hm hs=>by rw [sJ];exact⟨hm,hs,ct.nil _ _ _ _⟩,qD⟩
  ·have d1:(a.k == 1)=false:=by simp [k1]
   by_cases k2:a.k=2
   ·have d2:(a.k == 2)=true:=(by simp [k2]);have HAD:=ag (Hu (s:=a.s) (n:=a.sz) (a:=a.t) (z:=a.z) HB VN);obtain⟨e1,e2⟩:=HIK.Bo hN a.s a.sz a.t a.z;have sJ:=ag (show dP ⟨m,s⟩ a=⟨m,s⟩ by unfold dP;rw [ar k1,ar ai,ar ai,ar ai]);have qD:=ag (show (⟨m.eD a.s a.sz a.t a.z,ax.zero,m.rows a.s a.sz a.t a.z⟩:An)=gH ⟨m,s⟩ a by unfold gH;rw [ar k1,aw k2]);have Kv:=ag (Fj ⟨m,s⟩ a);rw [<-qD]at Kv;have HE:=ag (aJ e1 e2);have Ud:=ag HO.out.len;clear k1 k2 e1 e2;go_wp2_with (go_at_call 21;(with_reducible refine HAD.out.mono ?_);rintro e w3 ⟨hb3,v3,rfl,mC⟩;rw [HE.2]at mC;rw [HE.1];obtain⟨ro,rc,rfl⟩:=mC.isSlice;have pL:=ag mC;clear mC;have h3:=H2.later hb3;clear x0 x1 x2 xf s0 s1 s2 sf a0 a1 a2 a3 a4 a5 q0 q1 q2 q3 q4 q5 q6 q7 qf y0 y1 y2 y3 y4 y5 y6 y7 yf;obtain⟨x0,x1,x2,xf⟩:=eP h3.bm;obtain⟨a0,a1,a2,a3,a4,a5⟩:=h3.TQ;obtain⟨q0,q1,q2,q3,q4,q5,q6,q7,qf⟩:=cU h3.an;have H3:=ag h3;have sL:=ag hb3;clear h3 hb3);go_meet;refine ag ⟨ah na m.ns nc,ah la m.L lc,m.fl,ah Ij s.ns Ig,ah Iz s.L Ix,s.fl,⟨⟨m.eD a.s a.sz a.t a.z,ax.zero,m.rows a.s a.sz a.t a.z⟩,ro,(m.rows a.s a.sz a.t a.z).length,rc⟩,?_,fun w'' hk hm hs=>?_,qD⟩
    ·exact(H3.xQ (o:=7) (v:=ah ro (m.rows a.s a.sz a.t a.z).length rc)).xQ (o:=0) (v:=af (m.eD a.s a.sz a.t a.z))
    ·rw [sJ];have hr:=Kv.out;have hl:=Ud.out;exact⟨hm,hs,ct.owned cO (iU pL.row ((aQ.trans (show aQ (w+7) w3 _ from (((aQ.refl _ _).set (by show w+6<w.heap.size+7;omega) _).set (by show w+6<w.heap.size+7;omega) _)) hk).mono hz2) aO) rfl (by show (m.rows a.s a.sz a.t a.z).length*56<=_;have:(m.rows a.s a.sz a.t a.z).length<=m.L:=hr;omega)⟩
   ·have d2:(a.k == 2)=false:=(by simp [k2]);by_cases k3:a.k=3
    ·have d3:(a.k == 3)=true:=(by simp [k3]);have HAD:=ag (FL (s:=a.s) (a:=a.t) (z:=a.z) HB VN);obtain⟨e1,e2⟩:=HIK.M4 ai a.s a.t a.z;have sJ:=ag (show dP ⟨m,s⟩ a=⟨m,s⟩ by unfold dP;rw [ar k1,ar ai,ar ai,ar ai]);have qD:=ag (show (⟨m.wT a.s a.t a.z,m.G7 a.s a.t a.z,[]⟩:An)=gH ⟨m,s⟩ a by unfold gH;rw [ar k1,ar k2,aw k3]);have HE:=ag (aJ e1 e2);clear k1 k2 k3 e1 e2;go_wp2_with (go_at_call 22;(with_reducible refine HAD.out.mono ?_);rintro e w3 ⟨hb3,rfl⟩;rw [HE.1,HE.2];have h3:=H2.later hb3;clear x0 x1 x2 xf s0 s1 s2 sf a0 a1 a2 a3 a4 a5 q0 q1 q2 q3 q4 q5 q6 q7 qf y0 y1 y2 y3 y4 y5 y6 y7 yf;obtain⟨x0,x1,x2,xf⟩:=eP h3.bm;obtain⟨a0,a1,a2,a3,a4,a5⟩:=h3.TQ;obtain⟨q0,q1,q2,q3,q4,q5,q6,q7,qf⟩:=cU h3.an;have H3:=ag h3;have sL:=ag hb3;clear h3 hb3);go_meet;exact ag ⟨ah na m.ns nc,ah la m.L lc,m.fl,ah Ij s.ns Ig,ah Iz s.L Ix,s.fl,⟨⟨m.wT a.s a.t a.z,m.G7 a.s a.t a.z,[]⟩,none,0,0⟩,((((((H3.xQ (o:=1) (v:=af (m.G7 a.s a.t a.z).c)).xQ (o:=2) (v:=af (m.G7 a.s a.t a.z).s)).xQ (o:=3) (v:=af (m.G7 a.s a.t a.z).mi)).xQ (o:=4) (v:=af (m.G7 a.s a.t a.z).ma)).xQ (o:=5) (v:=af (m.G7 a.s a.t a.z).t)).xQ (o:=6) (v:=af (m.G7 a.s a.t a.z).l)).xQ (o:=0) (v:=af (m.wT a.s a.t a.z)),fun w'' _ hm hs=>by rw [sJ];exact⟨hm,hs,ct.nil _ _ _ _⟩,qD⟩
    ·have d3:(a.k == 3)=false:=(by simp [k3]);by_cases k4:a.k=4
     ·have d4:(a.k == 4)=true:=(by simp [k4]);have HAD:=ag (KZ (time:=a.t) HB VN);obtain⟨e1,e2⟩:=HIK.Za a.t;by_cases h0:m.xo a.t=0
      ·have sJ:=ag (show dP ⟨m,s⟩ a=⟨m.exp a.t,s⟩ by unfold dP;rw [ar k1,aw k4,aw h0]);have qD:=ag (show (⟨0,ax.zero,[]⟩:An)=gH ⟨m,s⟩ a by unfold gH;rw [ar k1,ar k2,ar k3,aw k4,h0]);rw [h0]at e1;have e3:=e2 h0;have HE:=ag (aJ e1 e3);have Ud:=ag (show ((m.exp a.t).L).length*56<=140737488351232 by have h1:=ub (bX a.t) m.L;have h2:=HO.len;show (m.L.filter (bX a.t)).length*56<=_;omega);clear k1 k2 k3 k4 e1 e2 e3 h0;go_wp2_with (go_at_call 23;(with_reducible refine HAD.out.mono ?_);rintro e w3 ⟨hb3,v3,rfl,mC⟩;rw [HE.2]at mC;rw [HE.1];obtain⟨lo,XO,rfl⟩:=mC.isSlice;have pL:=ag mC;clear mC;have h3:=H2.later hb3;clear x0 x1 x2 xf s0 s1 s2 sf a0 a1 a2 a3 a4 a5 q0 q1 q2 q3 q4 q5 q6 q7 qf y0 y1 y2 y3 y4 y5 y6 y7 yf;obtain⟨x0,x1,x2,xf⟩:=eP h3.bm;obtain⟨a0,a1,a2,a3,a4,a5⟩:=h3.TQ;obtain⟨q0,q1,q2,q3,q4,q5,q6,q7,qf⟩:=cU h3.an;have H3:=ag h3;have sL:=ag hb3;clear h3 hb3);go_meet;refine ag ⟨ah na m.ns nc,ah lo (m.exp a.t).L.length XO,a.t,ah Ij s.ns Ig,ah Iz s.L Ix,s.fl,⟨⟨0,ax.zero,[]⟩,none,0,0⟩,?_,fun w'' hk hm hs=>?_,qD⟩
       ·exact(((H3.xQ (o:=0) (v:=af 0)).FJ (o:=0) (v:=ah na m.ns nc)).FJ (o:=1) (v:=af a.t)).FJ (o:=2) (v:=ah lo (m.exp a.t).L.length XO)
       ·rw [sJ];obtain⟨_,_,ge,g1,-⟩:=id hm;injection ge with ge;simp only [Array.mk.injEq,List.cons.injEq,and_true]at ge;rw [<-ge.1]at g1;exact⟨⟨_,_,rfl,g1,pL.Gp aO Ud ((aQ.trans (show aQ (w+7) w3 _ from (((((aQ.refl _ _).set (by show w+6<w.heap.size+7;omega) _).set (by show w<w.heap.size+7;omega) _).set (by show w<w.heap.size+7;omega) _).set (by show w<w.heap.size+7;omega) _)) hk).mono hz2)⟩,hs,ct.nil _ _ _ _⟩
      ·obtain⟨E,hE⟩:=bG (m.xo a.t);have sJ:=ag (show dP ⟨m,s⟩ a=⟨m,s⟩ by unfold dP;rw [ar k1,aw k4,ar h0]);have qD:=ag (show (⟨E,ax.zero,[]⟩:An)=gH ⟨m,s⟩ a by unfold gH;rw [ar k1,ar k2,ar k3,aw k4,hE]);rw [hE]at e1 h0;have dn:(E == 0)=false:=(by simp [h0]);have HE:=ag e1;clear k1 k2 k3 k4 e1 e2 h0 hE;go_wp2_with (go_at_call 23;(with_reducible refine HAD.out.mono ?_);rintro e w3 ⟨hb3,v3,rfl,mC⟩;rw [HE];obtain⟨lo,XO,rfl⟩:=mC.isSlice;clear mC;have h3:=H2.later hb3;clear x0 x1 x2 xf s0 s1 s2 sf a0 a1 a2 a3 a4 a5 q0 q1 q2 q3 q4 q5 q6 q7 qf y0 y1 y2 y3 y4 y5 y6 y7 yf;obtain⟨x0,x1,x2,xf⟩:=eP h3.bm;obtain⟨a0,a1,a2,a3,a4,a5⟩:=h3.TQ;obtain⟨q0,q1,q2,q3,q4,q5,q6,q7,qf⟩:=cU h3.an;have H3:=ag h3;have sL:=ag hb3;clear h3 hb3);go_meet;exact ag ⟨ah na m.ns nc,ah la m.L lc,m.fl,ah Ij s.ns Ig,ah Iz s.L Ix,s.fl,⟨⟨E,ax.zero,[]⟩,none,0,0⟩,H3.xQ (o:=0) (v:=af E),fun w'' _ hm hs=>by rw [sJ];exact⟨hm,hs,ct.nil _ _ _ _⟩,qD⟩
     ·have d4:(a.k == 4)=false:=(by simp [k4]);by_cases k5:a.k=5
      ·have d5:(a.k == 5)=true:=(by simp [k5]);have sJ:=ag (show dP ⟨m,s⟩ a=⟨m,m⟩ by unfold dP;rw [ar k1,ar k4,aw k5]);have qD:=ag (show (⟨0,ax.zero,[]⟩:An)=gH ⟨m,s⟩ a by unfold gH;rw [ar k1,ar k2,ar k3,ar k4,aw (.inl k5)]);clear k1 k2 k3 k4 k5;go_wp2_with fail;go_meet;exact ag ⟨ah na m.ns nc,ah la m.L lc,m.fl,ah na m.ns nc,ah la m.L lc,m.fl,⟨⟨0,ax.zero,[]⟩,none,0,0⟩,((H2.Xz (o:=0) (v:=ah na m.ns nc)).Xz (o:=1) (v:=af m.fl)).Xz (o:=2) (v:=ah la m.L lc),fun w'' _ hm hs=>by rw [sJ];exact⟨hm,hm,ct.nil _ _ _ _⟩,qD⟩
      ·have d5:(a.k == 5)=false:=(by simp [k5]);by_cases k6:a.k=6
       ·have d6:(a.k == 6)=true:=(by simp [k6]);have sJ:=ag (show dP ⟨m,s⟩ a=⟨s,s⟩ by unfold dP;rw [ar k1,ar k4,ar k5,aw k6]);have qD:=ag (show (⟨0,ax.zero,[]⟩:An)=gH ⟨m,s⟩ a by unfold gH;rw [ar k1,ar k2,ar k3,ar k4,aw (.inr k6)]);clear k1 k2 k3 k4 k5 k6;go_wp2_with fail;go_meet;exact ag ⟨ah Ij s.ns Ig,ah Iz s.L Ix,s.fl,ah Ij s.ns Ig,ah Iz s.L Ix,s.fl,⟨⟨0,ax.zero,[]⟩,none,0,0⟩,((H2.FJ (o:=0) (v:=ah Ij s.ns Ig)).FJ (o:=1) (v:=af s.fl)).FJ (o:=2) (v:=ah Iz s.L Ix),fun w'' _ hm hs=>by rw [sJ];exact⟨hs,hs,ct.nil _ _ _ _⟩,qD⟩
       ·have d6:(a.k == 6)=false:=(by simp [k6]);have sJ:=ag (show dP ⟨m,s⟩ a=⟨m,s⟩ by unfold dP;rw [ar k1,ar k4,ar k5,ar k6]);have qD:=ag (show (⟨3,ax.zero,[]⟩:An)=gH ⟨m,s⟩ a by unfold gH;rw [ar k1,ar k2,ar k3,ar k4,ar ai]);clear k1 k2 k3 k4 k5 k6;go_wp2_with fail;go_meet;exact ag ⟨ah na m.ns nc,ah la m.L lc,m.fl,ah Ij s.ns Ig,ah Iz s.L Ix,s.fl,⟨⟨3,ax.zero,[]⟩,none,0,0⟩,H2.xQ (o:=0) (v:=af 3),fun w'' _ hm hs=>by rw [sJ];exact⟨hm,hs,ct.nil _ _ _ _⟩,qD⟩
 case rest=>
  obtain⟨nvE,lvE,flE,alc,ale,Py,q,hB,hK,hq⟩:=hcut.out;obtain⟨gm,gs,-⟩:=hK wc (aQ.refl _ _) (HX wc hB.below).1 (HX wc hB.below).2;obtain⟨v1,v2,ge,g1,g2⟩:=gm;obtain⟨w1',w2',he,g3,g4⟩:=gs;obtain⟨ea,ec,e1⟩:=g1.isSlice;obtain⟨eb,ed,e2⟩:=g2.isSlice;obtain⟨fa,fc,e3⟩:=g3.isSlice;obtain⟨fb,fd,e4⟩:=g4.isSlice;injection ge with ge;injection he with he;simp only [Array.mk.injEq,List.cons.injEq,and_true]at ge he;obtain⟨ge1,-,ge2⟩:=ge;obtain⟨WK,-,he2⟩:=he;rw [e1]at ge1;rw [e2]at ge2;rw [e3]at WK;rw [e4]at he2;generalize (dP ⟨m,s⟩ a).m.ns.length=n1 at ge1;generalize (dP ⟨m,s⟩ a).m.L.length=n2 at ge2;generalize (dP ⟨m,s⟩ a).s.ns.length=n3 at WK;generalize (dP ⟨m,s⟩ a).s.L.length=n4 at he2;subst ge1 ge2 WK he2;clear e1 e2 e3 e4 g1 g2 g3 g4;have HE:=ag (aJ hB (aJ hK hq));clear x0 x1 x2 xf s0 s1 s2 sf a0 a1 a2 a3 a4 a5 q0 q1 q2 q3 q4 q5 q6 q7 qf y0 y1 y2 y3 y4 y5 y6 y7 yf hK hq;have Zu:=ag fun(W:World) (hw:∀b,b≠w.heap.size+3->b≠w.heap.size+4->W.heap[b]?=wc.heap[b]?)=>(by
   have e1:=(hw w ai ai).trans hB.bm;have e2:=(hw (w+1) ai ai).trans hB.bs;have e3:=(hw (w+6) ai ai).trans hB.an;simp [World.cell?,e1,e2,e3]:W.cell? (w,0)=some (ah ea n1 ec)/\(W,w.heap.size,1,flE)/\W.cell? (w,2)=some (ah eb n2 ed)/\W.cell? (w,1,0)=some (ah fa n3 fc)/\(W,w.heap.size+1,1,Py)/\W.cell? (w,1,2)=some (ah fb n4 fd)/\(W,w.heap.size+6,0,q.an.code)/\(W,w.heap.size+6,1,q.an.is.c)/\(W,w.heap.size+6,2,q.an.is.s)/\(W,w.heap.size+6,3,q.an.is.mi)/\(W,w.heap.size+6,4,q.an.is.ma)/\(W,w.heap.size+6,5,q.an.is.t)/\(W,w.heap.size+6,6,q.an.is.l)/\W.cell? (w,6,7)=some (ah q.so q.n q.c))
  obtain⟨c0,c1,c2,cf⟩:=eP hB.z1;have hsz:=hB.size;clear hB;go_upto_region 23 with (fail);refine bN [(0,0),(1,0),(2,0),(3,2),(4,2),(5,3)] 5 (fun W=>W.cell? ⟨w.heap.size,0,none⟩=some (.slice ea n1 ec)/\W.cell? ⟨w.heap.size,1,none⟩=some (.int .i64 flE)/\W.cell? ⟨w.heap.size,2,none⟩=some (.slice eb n2 ed)/\W.cell? ⟨w.heap.size+1,0,none⟩=some (.slice fa n3 fc)/\W.cell? ⟨w.heap.size+1,1,none⟩=some (.int .i64 Py)/\W.cell? ⟨w.heap.size+1,2,none⟩=some (.slice fb n4 fd)/\W.cell? ⟨w.heap.size+6,0,none⟩=some (.int .i64 q.an.code)/\W.cell? ⟨w.heap.size+6,1,none⟩=some (.int .i64 q.an.is.c)/\W.cell? ⟨w.heap.size+6,2,none⟩=some (.int .i64 q.an.is.s)/\W.cell? ⟨w.heap.size+6,3,none⟩=some (.int .i64 q.an.is.mi)/\W.cell? ⟨w.heap.size+6,4,none⟩=some (.int .i64 q.an.is.ma)/\W.cell? ⟨w.heap.size+6,5,none⟩=some (.int .i64 q.an.is.t)/\W.cell? ⟨w.heap.size+6,6,none⟩=some (.int .i64 q.an.is.l)/\W.cell? ⟨w.heap.size+6,7,none⟩=some (.slice q.so q.n q.c)) cV cV (Zu.out _ fun _ _ _=>rfl) ?_
  (simp only [bV,List.filterMap_cons,List.filterMap_nil,List.getElem?_cons_zero,List.getElem?_cons_succ,Option.map_some])
  (repeat first|refine bg ?_|refine aZ ?_)
  refine aP rfl (fun K hK=>?_);go_simp;obtain⟨V1,hV1⟩:=cd ((((wc.setCell (w,3,0) (ah ea n1 ec)).setCell (w,3,1) (af flE)).setCell (w,3,2) (ah eb n2 ed)).drew);have v3:V1.heap[w.heap.size+3]?=some (.cells #[ah ea n1 ec,af flE,ah eb n2 ed] 37):=by
   have:=aM (off:=2) (v:=(ah eb n2 ed)) (aM (off:=1) (v:=(af flE)) (aM (off:=0) (v:=(ah ea n1 ec)) (HE.1.z1)));rw [hV1,show ∀X:World,X.drew.heap=X.heap from fun _=>rfl];simpa using this
  have o3:∀b,b≠w.heap.size+3->V1.heap[b]?=wc.heap[b]?:=fun b hb=>by rw [hV1];refine(cH _ ⟨w.heap.size+3,_,none⟩ b _ hb).trans ?_;refine(cH _ ⟨w.heap.size+3,_,none⟩ b _ hb).trans ?_;refine(cH _ ⟨w.heap.size+3,_,none⟩ b _ hb).trans ?_;rfl
  have b3:aq w V1:=by rw [hV1];exact(((HE.1.below.setCell (by show w<=w.heap.size+3;omega) _).setCell (by show w<=w.heap.size+3;omega) _).setCell (by show w<=w.heap.size+3;omega) _).drew
  have z3:V1=wc.heap.size:=by rw [hV1];simp
  rw [<-hV1];refine hK _ _ (Zu _ fun b h1 _=>o3 b h1) ?_;clear hK K hV1 c0 c1 c2 cf;obtain⟨r0,r1,r2,rf⟩:=eP ((o3 _ ai).trans HE.1.z2)
  (repeat first|refine bg ?_|refine aZ ?_)
  refine aP rfl (fun K hK=>?_);go_simp;obtain⟨V2,hV2⟩:=cd ((((V1.setCell (w,4,0) (ah fa n3 fc)).setCell (w,4,1) (af Py)).setCell (w,4,2) (ah fb n4 fd)));have v4:V2.heap[w.heap.size+4]?=some (.cells #[ah fa n3 fc,af Py,ah fb n4 fd] 37):=by
   have:=aM (off:=2) (v:=(ah fb n4 fd)) (aM (off:=1) (v:=(af Py)) (aM (off:=0) (v:=(ah fa n3 fc)) (((o3 _ ai).trans HE.1.z2))));rw [hV2];simpa using this
  have o4:∀b,b≠w.heap.size+4->V2.heap[b]?=V1.heap[b]?:=fun b hb=>by rw [hV2];refine(cH _ ⟨w.heap.size+4,_,none⟩ b _ hb).trans ?_;refine(cH _ ⟨w.heap.size+4,_,none⟩ b _ hb).trans ?_;refine(cH _ ⟨w.heap.size+4,_,none⟩ b _ hb).trans ?_;rfl
  have b4:aq w V2:=by rw [hV2];exact(((b3.setCell (by show w<=w.heap.size+4;omega) _).setCell (by show w<=w.heap.size+4;omega) _).setCell (by show w<=w.heap.size+4;omega) _)
  have z4:V2=V1.heap.size:=by rw [hV2];simp
  rw [<-hV2];refine hK _ _ (Zu _ fun b h1 h2=>(o4 b h2).trans (o3 b h1)) ?_;clear hK K hV2 r0 r1 r2 rf;obtain⟨r0,r1,r2,r3,r4,r5,r6,r7,rf⟩:=cU ((o4 _ ai).trans ((o3 _ ai).trans HE.1.z3))
  (repeat first|refine bg ?_|refine aZ ?_)
  refine bq rfl (fun K hK=>?_);go_simp;obtain⟨V3,GV⟩:=cd (((((((((V2.setCell (w,5,0) (af q.an.code)).setCell (w,5,1) (af q.an.is.c)).setCell (w,5,2) (af q.an.is.s)).setCell (w,5,3) (af q.an.is.mi)).setCell (w,5,4) (af q.an.is.ma)).setCell (w,5,5) (af q.an.is.t)).setCell (w,5,6) (af q.an.is.l)).setCell (w,5,7) (ah q.so q.n q.c)));have v5:V3.heap[w.heap.size+5]?=some (.cells #[af q.an.code,af q.an.is.c,af q.an.is.s,af q.an.is.mi,af q.an.is.ma,af q.an.is.t,af q.an.is.l,ah q.so q.n q.c] 42):=by
   have:=aM (off:=7) (v:=(ah q.so q.n q.c)) (aM (off:=6) (v:=(af q.an.is.l)) (aM (off:=5) (v:=(af q.an.is.t)) (aM (off:=4) (v:=(af q.an.is.ma)) (aM (off:=3) (v:=(af q.an.is.mi)) (aM (off:=2) (v:=(af q.an.is.s)) (aM (off:=1) (v:=(af q.an.is.c)) (aM (off:=0) (v:=(af q.an.code)) (((o4 _ ai).trans ((o3 _ ai).trans HE.1.z3))))))))));rw [GV];simpa using this
  have o5:∀b,b≠w.heap.size+5->V3.heap[b]?=V2.heap[b]?:=fun b hb=>by rw [GV];refine(cH _ ⟨w.heap.size+5,_,none⟩ b _ hb).trans ?_;refine(cH _ ⟨w.heap.size+5,_,none⟩ b _ hb).trans ?_;refine(cH _ ⟨w.heap.size+5,_,none⟩ b _ hb).trans ?_;refine(cH _ ⟨w.heap.size+5,_,none⟩ b _ hb).trans ?_;refine(cH _ ⟨w.heap.size+5,_,none⟩ b _ hb).trans ?_;refine(cH _ ⟨w.heap.size+5,_,none⟩ b _ hb).trans ?_;refine(cH _ ⟨w.heap.size+5,_,none⟩ b _ hb).trans ?_;refine(cH _ ⟨w.heap.size+5,_,none⟩ b _ hb).trans ?_;rfl
  have b5:aq w V3:=by rw [GV];exact((((((((b4.setCell (by show w<=w.heap.size+5;omega) _).setCell (by show w<=w.heap.size+5;omega) _).setCell (by show w<=w.heap.size+5;omega) _).setCell (by show w<=w.heap.size+5;omega) _).setCell (by show w<=w.heap.size+5;omega) _).setCell (by show w<=w.heap.size+5;omega) _).setCell (by show w<=w.heap.size+5;omega) _).setCell (by show w<=w.heap.size+5;omega) _)
  have z5:V3=V2.heap.size:=by rw [GV];simp
  rw [<-GV];refine hK _ _ ?_;clear hK K GV r0 r1 r2 r3 r4 r5 r6 r7 rf;refine cC ?_;obtain⟨c0,c1,c2,-⟩:=eP ((o5 _ ai).trans ((o4 _ ai).trans v3));obtain⟨r0,r1,r2,-⟩:=eP ((o5 _ ai).trans v4);obtain⟨q0,q1,q2,q3,q4,q5,q6,q7,-⟩:=cU v5;have Pf:aQ (w+7) wc V3:=⟨ai,fun b h1 _=>(o5 b ai).trans ((o4 b ai).trans (o3 b ai))⟩;have GC:=ag (aJ Pf b5);clear v3 v4 v5 o3 o4 o5 b3 b4 b5 z3 z4 z5 Pf;go_wp2_with fail;exact bW (v:= .tuple #[.agg #[ah ea n1 ec,af flE,ah eb n2 ed], .agg #[ah fa n3 fc,af Py,ah fb n4 fd], .agg q.cs]) (by simp [results,Tryz.results7,go_sem, *]) rfl ⟨GC.2,_,_,q,rfl,HE.2.2,fun w'' hk=>HE.2.1 w'' (GC.1.trans (hk.mono ai))⟩
theorem Tryz.JG:Tryz.prog.cellsOf 46=6:=cV
theorem Tryz.SJ:Tryz.prog.bytesOf 46=56:=cV
section
variable {H:Type} {enc:TypeId×Value->H} {w:World} {base:Nat} {sp:Nat->Bool} {held:Bool}
theorem QI {fuel:Nat} {cs:List Value} {x:DataW H×List MemPlace} (h:DataW.trod enc Tryz.prog w base sp held fuel 46 cs=some x) (hw:∀m∈x.1.weights Tryz.prog 46,m<=reachBytes) :
  ∃a:Ac,cs=Eo a/\a.s.size<=140737488351232:=by
 obtain⟨xs,n,_,hx,hl,hn,hf⟩:=DataW.trod_struct Tryz.underlying46 h;rw [Tryz.JG]at hl
 match xs,hn with
 |[x0,x1,x2,x3,x4,x5],_=>
  rw [hx]at hw;have hwe:∀(j:Nat) (t:TypeId) (d:DataW H),((Tryz.prog.fieldsOf 46).toList.map (·.type))[j]?=some t->[x0.1,x1.1,x2.1,x3.1,x4.1,x5.1][j]?=some d->∀m∈d.weights Tryz.prog t,m<=reachBytes:=by
   intro j t d ht hd m hm;refine hw m ?_;simp only [DataW.weights,Tryz.underlying46];simp only [Program.fieldsOf,Tryz.underlying46]at ht;exact DataW.weights_mem_each ht hd m hm
  obtain⟨a,ha,-⟩:=om (hf 0 _ rfl);obtain⟨s,e,hs,_⟩:=DataW.trod_string Tryz.underlying9 (hf 1 _ rfl);obtain⟨b,hb,-⟩:=om (hf 2 _ rfl);obtain⟨c,hc,-⟩:=om (hf 3 _ rfl);obtain⟨d,hd,-⟩:=om (hf 4 _ rfl);obtain⟨f,hf',-⟩:=om (hf 5 _ rfl);change (cs.drop 1).take (Tryz.prog.cellsOf 9)=_ at e;rw [Tryz.SF]at e;change cs[0]?=_ at ha;change cs[2]?=_ at hb;change cs[3]?=_ at hc;change cs[4]?=_ at hd;change cs[5]?=_ at hf';refine⟨⟨a,s,b,c,d,f⟩,?_,?_⟩
  ·match cs,hl with
   |[c0,c1,c2,c3,c4,c5],_=>
    simp at e ha hb hc hd hf';simp [Eo,e,ha,hb,hc,hd,hf']
  ·have:=hwe 1 9 x1.1 cV rfl s.data.toList (by rw [hs];simp [DataW.weights]);have e2:s.data.toList=s.size:=bh;unfold reachBytes at this;show s.size<=_;omega
theorem K8 {r:Reach} {b0:Nat} {v:Value} {d:DataW H} {p:List MemPlace} (hv:Value.okWide Tryz.prog w r b0 22 v) (h:DataW.Trod enc Tryz.prog w base sp held 22 v d p) (hw:∀m∈d.weights Tryz.prog 22,m<=reachBytes) :
  ∃xs:List Ac,Ki w v xs/\∀a∈xs,a.s.size<=140737488351232:=by
 obtain⟨fuel,hf⟩:=h;obtain⟨v',xs,e,h1,h2⟩:=K3 Eo (fun a=>a.s.size<=140737488351232) Tryz.underlying22 Tryz.JG bY Tryz.SJ hf hw fun _ _ _ h1 h2=>QI h1 h2;rw [KJ Tryz.underlying22 hv e];exact⟨xs,h1,h2⟩
end
end Go.Proofs.YtmljjfhgciaceaaGreatDoor
