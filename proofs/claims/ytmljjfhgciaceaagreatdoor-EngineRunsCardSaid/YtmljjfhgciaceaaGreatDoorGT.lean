/- Lemmas of the proof. -/
import Derived.Test.YtmljjfhgciaceaaGreatDoorCz
import Derived.Test.YtmljjfhgciaceaaGreatDoorSX
import Derived.Test.YtmljjfhgciaceaaGreatDoorBK
import Derived.Test.YtmljjfhgciaceaaGreatDoorHd
import Derived.Test.YtmljjfhgciaceaaGreatDoorPA
import Derived.Test.YtmljjfhgciaceaaGreatDoorIG
import Derived.Test.YtmljjfhgciaceaaGreatDoorNC
import Derived.Test.YtmljjfhgciaceaaGreatDoorKG
set_option maxRecDepth 100000
set_option maxHeartbeats 1000000
namespace Go.Proofs.YtmljjfhgciaceaaGreatDoor
open Go.RowKit
noncomputable def Ej (t:Tr) (key:Int):ax×Int:=if aC t=0 then(if 0<=key/\key<=1099511627775 then Y6 t key else(ax.zero,2)) else(ax.zero,aC t)
theorem cJ {w:World} {b:Nat} {a0 a1 a2 a3 a4 a5:Value} {T:TypeId} (h:w.heap[b]?=some (.cells #[a0,a1,a2,a3,a4,a5] T)) :
  w.cell? (b,0)=some a0/\w.cell? (b,1)=some a1/\w.cell? (b,2)=some a2/\w.cell? (b,3)=some a3/\w.cell? (b,4)=some a4/\w.cell? (b,5)=some a5/\∀o,w.frozen? ⟨b,o,none⟩=false:=by
 simp [World.cell?,World.frozen?,h]
section
variable {ob:Nat} {r:ax} {w wr:World}
structure zh (w:World) (ob:Nat) (tv:Value) (root:Int) (wr:World) (r:ax):Prop where
 below:aq w wr
 box:wr.heap[w.heap.size]?=some (.cells #[tv,af root] 27)
 res:wr.heap[w.heap.size+1]?=some (.cells #[af 0,af 0,af 0,af 0,af 0,af 0] 39)
 lt:w+1<ob
 out:wr.heap[ob]?=some (.cells #[af r.c,af r.s,af r.mi,af r.ma,af r.t,af r.l] 39)
theorem zh.later {tv:Value} {root:Int} {wr':World} (h:zh w ob tv root wr r) {C:Nat} (hb:Below C wr wr') (hC:wr<=C):zh w ob tv root wr' r:=by
 have l0:=(eJ.1 h.box).1;have l1:=(eJ.1 h.res).1;have l2:=(eJ.1 h.out).1;exact⟨aF h.below (hb.mono hC) h.below.size,(hb.block _ ai).trans h.box,(hb.block _ ai).trans h.res,h.lt,(hb.block _ ai).trans h.out⟩
theorem Bt (t:Tr) (key:Int):Ej t key=if aC t=0 then(if 0<=key/\key<=1099511627775 then L5 t key else(ax.zero,2)) else(ax.zero,aC t):=by
 unfold Ej;by_cases hf:aC t=0
 ·rw [aw hf,aw hf];by_cases hr:0<=key/\key<=1099511627775
  ·rw [aw hr,aw hr,Vx (cZ hf).2,ND (cZ hf).2 hr.1 ai]
  ·rw [ar hr,ar hr]
 ·rw [ar hf,ar hf]
theorem xt {B b:Nat} {v0 v1 v2 v3 v4 v5:Value} (h:b≠B) :
  ((((((w.setCell (B,0) v0).setCell (B,1) v1).setCell (B,2) v2).setCell (B,3) v3).setCell (B,4) v4).setCell (B,5) v5).heap[b]?=w.heap[b]?:=by
 have g:∀(w:World) (o:Nat) (v:Value),(w.setCell ⟨B,o,none⟩ v).heap[b]?=w.heap[b]?:=fun w o v=>xy w ⟨B,o,none⟩ v b h;rw [g,g,g,g,g,g]
theorem zh.set {tv:Value} {root:Int} (h:zh w ob tv root wr r) (q:ax) :
  zh w ob tv root ((((((wr.setCell (ob,0) (af q.c)).setCell (ob,1) (af q.s)).setCell (ob,2) (af q.mi)).setCell (ob,3) (af q.ma)).setCell (ob,4) (af q.t)).setCell (ob,5) (af q.l)) q:=by
 have hl:=h.lt;have hb:=h.below;exact⟨aj,by rw [xt ai];exact h.box,by rw [xt ai];exact h.res,hl,jB h.out⟩
theorem F7 {v:Value} {t:Tr} {key:Int} (h:di w v t) :
  Calls Tryz.prog 108 #[v,af key] w fun e w'=>e = .returned (.tuple #[(Ej t key).1.v,af (Ej t key).2])/\aq w w':=by
 obtain⟨nv,rfl,hn⟩:=h;obtain⟨⟨ao,cap,rfl⟩,hlen⟩:=hn.len;obtain⟨W0,hW0⟩:=cd ((w.alloc (.cells #[ah ao t.nodes cap,af t.root] 27)).alloc (.cells #[af 0,af 0,af 0,af 0,af 0,af 0] 39));have hb0:aq w W0:=by rw [hW0];exact aj
 have hz0:W0=w.heap.size+2:=by rw [hW0];simp
 have k0:W0.heap[w.heap.size]?=some (.cells #[ah ao t.nodes cap,af t.root] 27):=by
  rw [hW0,gy _ _ _ bh];exact au _ _ rfl
 have k1:W0.heap[w.heap.size+1]?=some (.cells #[af 0,af 0,af 0,af 0,af 0,af 0] 39):=by
  rw [hW0];exact au _ _ bh
 have hn0:=hn.below hb0 aO;have jD:=ag (kQ (t:=t) (w:=W0) (v:= .agg #[ah ao t.nodes cap,af t.root]) ⟨_,rfl,hn0⟩);obtain⟨q0,q1⟩:W0.cell? (w,0)=some (ah ao t.nodes cap)/\(W0,w.heap.size,1,t.root):=by simp [World.cell?,k0]
 go_enter Tryz.func108,Tryz.ntmps108;go_upto_region 1 with (fail);rw [<-hW0];clear hW0;by_cases hf:aC t=0
 ·by_cases hr:0<=key/\key<=1099511627775
  ·have Xn:=ag (show Ej t key=L5 t key by rw [Bt,aw hf,aw hr]);rw [hf]at jD;have hr1:key<1099511627776:=ai;have hr0:0<=key:=hr.1;go_upto_region 6 with ((go_at_call 107;(with_reducible refine jD.out.mono ?_);rintro e w1 ⟨rfl,hb1⟩));have k10:w1.heap[w.heap.size]?=_:=(hb1.block _ ai).trans k0;have k11:w1.heap[w.heap.size+1]?=_:=(hb1.block _ ai).trans k1;have xh:aq w w1:=aF hb0 hb1 hb0.size;have hs1:w+2<=w1.heap.size:=by have:=hb1.size;omega
   obtain⟨Kk,q1'⟩:w1.cell? (w,0)=some (ah ao t.nodes cap)/\(w1,w.heap.size,1,t.root):=by simp [World.cell?,k10]
   clear q0 q1 k0 k1 hb1 jD hn0;have n1:w<w1.heap.size:=ai;obtain⟨ob,ni⟩:=cd (w1.heap.size);obtain⟨W2,hW2⟩:=cd (w1.alloc (.cells #[af 0,af 0,af 0,af 0,af 0,af 0] 39));have hst:zh w ob (ah ao t.nodes cap) t.root W2 ax.zero:=by
    rw [hW2,ni];exact⟨aj,by rw [gy _ _ _ ai];exact k10,by rw [gy _ _ _ ai];exact k11,ai,au _ _ rfl⟩
   have HST:=ag hst;go_upto_region 8 with (fail);rw [<-ni,<-hW2];obtain⟨lv,hv0,e0,-,-⟩:=(cZ hf).2;have HV:=ag e0;have HF:=ag hf;clear hst hW2 k10 k11 Kk q1' n1 hs1 xh ni e0 hf;have HN:=ag hn
   go_loopg [8] 11 (fun g nv wr=>∃(f:Nat) (n a b:Int) (l:List Int) (h:Nat) (r:ax),f<=11/\g=f+0/\nv=af n/\Hid (nU t (f+1) n a b=some (l,h)/\a<=key/\key<b)/\Hid (rK t key r (rS t key (f+1) n))/\Hid (zh w ob (ah ao t.nodes cap) t.root wr r))
   case atStart=>exact⟨11,t.root,0,1099511627776,lv,hv0,ax.zero,nu _,rfl,rfl,ag ⟨HV,hr0,hr1⟩,ag F8,HST⟩
   case round=>
    obtain⟨f,n,a,b,l,h,r,hf,rfl,rfl,HVI,rJ,Ql⟩:=hrel;obtain⟨x,hx⟩:=BL HVI.out.1;obtain⟨hn0,yu,tT⟩:=pJ hx;obtain⟨j,hj⟩:∃j:Nat,n=j:=⟨n.toNat,ai⟩;subst hj;rw [Int.toNat_natCast]at yu tT;obtain⟨nb,fV,c,ev,kv,dv,bv,e0,hnb,hE,hK,hD,hB,c0,c1,c2,c3,c4⟩:=lG HN Ql.out.below tT;injection e0 with e0 _ e2;subst e0 e2;obtain⟨ae,ne,rfl⟩:=hE.isSlice;obtain⟨ak,nk,rfl⟩:=hK.isSlice;obtain⟨ad,rV,rfl⟩:=hD.isSlice;obtain⟨ab,oN,rfl⟩:=hB.isSlice;have DB:=ag (Sk HF HVI.out.1 hx HVI.out.2.1 HVI.out.2.2);obtain⟨q0,q1⟩:wr.cell? (w,0)=some (ah (some (nb,fV)) t.nodes cap)/\(wr,w.heap.size,1,t.root):=(by simp [World.cell?,Ql.out.box]);have hbz:=Ql.out.below.size;have jh:=fun w'=>dU (ab:=nb) (aR:=fV) (n:=t.nodes.length) (cap:=cap) (show (j:Int)=((j:Nat):Int) by rfl) yu w';have n0:nb<wr:=ai;have HE:=ag hE;have HB:=ag hB;have ZR:=ag hK;have HDD:=ag hD;clear hE hB hK hD hx hn0;obtain⟨W8,mq⟩:=cd (wr.alloc (.cells #[.bool x.leaf,ah ae x.aI ne,ah ak x.keys nk,ah ad x.kids rV,ah ab x.buf oN] 125));have jf:aq wr W8:=(by rw [mq];exact aj);have k8:W8.heap[wr.heap.size]?=some (.cells #[.bool x.leaf,ah ae x.aI ne,ah ak x.keys nk,ah ad x.kids rV,ah ab x.buf oN] 125):=(by rw [mq];exact au _ _ rfl);have Z1:=ag (Ql.out.later jf aO);go_upto_region 9 with (fail);rw [<-mq];clear mq q0 q1 c0 c1 c2 c3 c4 jh;obtain⟨x0,x1,x2,x3,x4⟩:W8.cell? (wr,0)=some (.bool x.leaf)/\W8.cell? (wr,1)=some (ah ae x.aI ne)/\W8.cell? (wr,2)=some (ah ak x.keys nk)/\W8.cell? (wr,3)=some (ah ad x.kids rV)/\W8.cell? (wr,4)=some (ah ab x.buf oN):=(by simp [World.cell?,k8]);obtain⟨L,hL⟩:=bG (x.own);rw [hL]at DB;obtain⟨la,lc,hLV⟩:∃la lc,(x.leaf=true->la=ae/\lc=ne/\L=x.aI)/\(x.leaf=false->la=ab/\lc=oN/\L=x.buf):=by
     cases hl:x.leaf with
     |true=>exact⟨ae,ne,fun _=>⟨rfl,rfl,by rw [<-hL];simp [Nd.own,hl]⟩,fun h=>by cases h⟩
     |false=>exact⟨ab,oN,fun h=>(by cases h),fun _=>⟨rfl,rfl,by rw [<-hL];simp [Nd.own,hl]⟩⟩
    have VQ:=ag hLV;have HLA:=ag (show cX w (ah la L lc) L by
     cases hl:x.leaf with
     |true=>obtain⟨rfl,rfl,rfl⟩:=hLV.1 hl;exact HE
     |false=>obtain⟨rfl,rfl,rfl⟩:=hLV.2 hl;exact HB)
    clear hL hLV;go_upto_if 39 with (fail);go_cut [10] (fun v wx=>v=ah la L lc/\W8=wx)
    case first=>
     cases hl:x.leaf with
     |true=>
      have h1:=VQ.1 hl;rw [hl]at x0;obtain⟨g1,g2,g3⟩:=h1;have HG3:=ag g3;subst g1 g2;clear g3 hl;go_wp2;go_meet;exact⟨by rw [HG3],rfl⟩
     |false=>
      have h1:=VQ.2 hl;rw [hl]at x0;obtain⟨g1,g2,g3⟩:=h1;have HG3:=ag g3;subst g1 g2;clear g3 hl;go_wp2;go_meet;exact⟨by rw [HG3],rfl⟩
    case rest=>
     obtain⟨rfl,rfl⟩:=hcut;have HA:=ag (Gn (x:=key) (w:=W8) (HLA.below Z1.below aO) DB.1 (fun e he=>by have:=DB.2.2.1 e he;omega));obtain⟨hs,LQ⟩:=bG (uG L key);obtain⟨ps,hps⟩:=bG (jr L key);rw [LQ,hps]at HA;have HHS:=ag LQ;have HPS:=ag hps;obtain⟨TL,WT⟩:=cd ((if x.leaf=true then []else rS t key gk (x.kids.getD (bL x.keys key) 0)));have DA:=ag (show rK t key r (L.filter (fun e=>decide (e.key=key))++TL) by
      have:=rJ.out;rw [DB.2.2.2.1]at this;rw [WT];exact this)
     have HTL:=ag WT;clear LQ hps WT x0 x1 x2 x3 x4 rJ;go_upto_if 48 with ((go_at_call 117;(with_reducible refine HA.out.mono ?_);rintro e w9 ⟨rfl,kS⟩));have k9:w9.heap[wr.heap.size]?=_:=(kS.block _ (eJ.1 k8).1).trans k8;have MV:=ag (Z1.later kS aO);have O6:ob<w9.heap.size:=(eJ.1 MV.out.out).1;have afV:wr<w9.heap.size:=(eJ.1 k9).1;have RY:w<=w9.heap.size:=MV.below.size;have alP:ob<wr:=(eJ.1 Ql.out.out).1;clear k8 jf kS HA;go_cut [] (fun wx=>∃r',Hid (zh w ob (ah (some (nb,fV)) t.nodes cap) t.root wx r')/\wx.heap[wr.heap.size]?=some (.cells #[.bool x.leaf,ah ae x.aI ne,ah ak x.keys nk,ah ad x.kids rV,ah ab x.buf oN] 125)/\Hid (rK t key r' TL))
     case first=>
      cases hs with
      |false=>
       go_wp2;go_meet;exact⟨r,MV,k9,ag (Jg HHS DA)⟩
      |true=>
       obtain⟨i,hi,hp,-,hfl⟩:=E6 DB.1 HHS;obtain rfl:i=ps:=hp.symm.trans HPS;have alK:i<L:=hi;obtain⟨_,_,hv,-,-,-,-,h5⟩:=HLA.out;injection hv with g1 _ g3;subst g1 g3;obtain⟨eb,cM,ll,pq,jF⟩:=h5 ai;subst ll;obtain⟨-,y1,y2,y3,y4,y5,y6⟩:=br MV.below pq jF hi;have J7:=ag (Jf (hi:=hi) (DB.2.1 _ (eZ hi)).2 hfl DA);obtain⟨y,hy⟩:=bG (L[i].is);rw [hy]at y1 y2 y3 y4 y5 y6 J7;obtain⟨J,E,CW⟩:∃J E,bF r y=(J,E):=⟨_,_,rfl⟩;have ze:=ag CW;have HM:=ag fun w'=>(by have:=lT r y w';rw [CW]at this;exact this :
        Calls Tryz.prog 15 #[.agg #[af r.c,af r.s,af r.mi,af r.ma,af r.t,af r.l], .agg #[af y.c,af y.s,af y.mi,af y.ma,af y.t,af y.l]] w' fun e' w5=>e' = .returned (.tuple #[.agg #[af J.c,af J.s,af J.mi,af J.ma,af J.t,af J.l],af E])/\aq w' w5)
       obtain⟨o0,o1,o2,o3,o4,o5,-⟩:=cJ MV.out.out;have I6:=fun w'=>cN (ab:=eb) (aR:=cM) (n:=L.length) (cap:=lc) (show (i:Int)=((i:Nat):Int) by rfl) hi w';have HS:=ag fun w' (hb:aq w9 w')=>(by
        have gc:∀b o,b<w9.heap.size->w'.cell? ⟨b,o,none⟩=w9.cell? ⟨b,o,none⟩:=fun b o h=>hb.cell (p:=⟨b,o,none⟩) h;have LV:eb<w9:=ai;rw [gc _ _ O6,gc _ _ O6,gc _ _ O6,gc _ _ O6,gc _ _ O6,gc _ _ O6,gc _ _ LV,gc _ _ LV,gc _ _ LV,gc _ _ LV,gc _ _ LV,gc _ _ LV];exact⟨o0,o1,o2,o3,o4,o5,y1,y2,y3,y4,y5,y6⟩:(w',ob,0,r.c)/\(w',ob,1,r.s)/\(w',ob,2,r.mi)/\(w',ob,3,r.ma)/\(w',ob,4,r.t)/\(w',ob,5,r.l)/\(w',eb,cM+i*7+1,y.c)/\(w',eb,cM+i*7+2,y.s)/\(w',eb,cM+i*7+3,y.mi)/\(w',eb,cM+i*7+4,y.ma)/\(w',eb,cM+i*7+5,y.t)/\(w',eb,cM+i*7+6,y.l))
       have b0:aq w9 w9.drew:=(aW _ _).drew;have hs0:=HS _ b0;clear jF h5 hfl hp CW hy y1 y2 y3 y4 y5 y6 o0 o1 o2 o3 o4 o5;go_upto_region 14 with (fail);go_cut [13,14] (fun p c wx=>∃g:Nat,p = .pointer (some (g,0))/\c=af E/\wx.heap[g]?=some (.cells #[af J.c,af J.s,af J.mi,af J.ma,af J.t,af J.l] 39)/\w9<=g/\aq w9 wx)
       case first=>
        go_region_held3 (fun w'=>(w',ob,0,r.c)/\(w',ob,1,r.s)/\(w',ob,2,r.mi)/\(w',ob,3,r.ma)/\(w',ob,4,r.t)/\(w',ob,5,r.l)/\(w',eb,cM+i*7+1,y.c)/\(w',eb,cM+i*7+2,y.s)/\(w',eb,cM+i*7+3,y.mi)/\(w',eb,cM+i*7+4,y.ma)/\(w',eb,cM+i*7+5,y.t)/\(w',eb,cM+i*7+6,y.l))
         (first|with_reducible exact hs0|(with_reducible refine HS.out _ ?_;exact aj))
         (first
          |(go_at_call 15;(with_reducible refine(HM.out _).mono ?_);rintro e' w5 ⟨rfl,BE⟩;guard_hyp BE:Below w9.drew.heap.size w9.drew w5;have cy:aq w9 w5:=aF (show aq w9 _ from aj) BE dI;have LH:=cy.size)
          |(go_at_call 15;(with_reducible refine(HM.out _).mono ?_);rintro e' w5 ⟨rfl,BE⟩;obtain⟨q5,z0,z1,z2,z3,z4,z5,zf⟩:=vg BE;have cy:aq w9 w5:=aF (show aq w9 _ from aj) BE dI;have LH:=cy.size))
        all_goals
         go_wp2_with fail;go_meet;refine⟨_,rfl,rfl,?_,?_,?_⟩
         ·first
          |with_reducible exact au _ _ rfl
          |with_reducible exact jB q5
         ·(first|omega|(simp;done)|(simp;omega))
         ·exact aj
       case rest=>
        obtain⟨g,rfl,rfl,hg,Yx,hbc⟩:=hcut;have V7:=ag (MV.later hbc aO);have kc:wc.heap[wr.heap.size]?=_:=(hbc.block _ afV).trans k9;obtain⟨j0,j1,j2,j3,j4,j5,-⟩:=cJ hg;obtain⟨o0,o1,o2,o3,o4,o5,of⟩:=cJ V7.out.out;obtain⟨z0,z1,z2,z3,z4,z5,zf⟩:=cJ V7.res;have Vl:=V7.out.below;clear hs0 b0 k9;by_cases hcc:r.c+y.c<=1073741824
        ·obtain⟨t1,t2⟩:=J7.1 hcc;obtain⟨rfl,rfl⟩:=Prod.mk.inj (ze.symm.trans t1);have uW:=ag t2;generalize r.join y=J at *;clear t1 t2 hcc J7 ze HM;go_wp2;go_meet;exact⟨J,ag (V7.set J),by rw [xt ai];exact kc,uW⟩
        ·obtain⟨t1,t2⟩:=J7.2 hcc;obtain⟨rfl,rfl⟩:=Prod.mk.inj (ze.symm.trans t1);have uW:=ag (Xn.trans t2);clear t1 t2 hcc J7 ze HM;go_wp2;rw [uW];exact bW (v:= .tuple #[.agg #[af 0,af 0,af 0,af 0,af 0,af 0],af 1]) (by simp [results,Tryz.results108,go_sem, *]) rfl ⟨rfl,aj⟩
     case rest=>
      obtain⟨r',V6,kn,Xe⟩:=hcut;clear MV k9 Z1 Ql DA;have Rs:wr<wc.heap.size:=(eJ.1 kn).1;obtain⟨x0,x1,x2,x3,x4⟩:wc.cell? (wr,0)=some (.bool x.leaf)/\wc.cell? (wr,1)=some (ah ae x.aI ne)/\wc.cell? (wr,2)=some (ah ak x.keys nk)/\wc.cell? (wr,3)=some (ah ad x.kids rV)/\wc.cell? (wr,4)=some (ah ab x.buf oN):=(by simp [World.cell?,kn]);have Vl:=V6.out.below
      cases hl:x.leaf with
      |true=>
       rw [hl]at x0;have HR:=ag (Xn.trans (L6 (by have:=Xe.out;rw [HTL,aw hl]at this;exact this)));obtain⟨o0,o1,o2,o3,o4,o5,of⟩:=cJ V6.out.out;obtain⟨z0,z1,z2,z3,z4,z5,zf⟩:=cJ V6.out.res;clear hl kn;go_wp2;rw [HR];exact bW (v:= .tuple #[.agg #[af r'.c,af r'.s,af r'.mi,af r'.ma,af r'.t,af r'.l],af 0]) (by simp [results,Tryz.results108,go_sem, *]) rfl ⟨rfl,aj⟩
      |false=>
       obtain⟨hks,hkl,f',a',b',l',h',E3,LG,ha',hb'⟩:=DB.2.2.2.2 hl;have AR:=ag (show rK t key r' (rS t key gk (x.kids.getD (bL x.keys key) 0)) by have:=Xe.out;rw [HTL,ar (by simp [hl])]at this;exact this);rw [hl]at x0;obtain⟨m,hm⟩:=bG (bL x.keys key);rw [hm]at hkl LG AR;obtain⟨K,hK⟩:∃K,x.kids[m]?=some K:=⟨x.kids[m],by simp [hkl]⟩;have hKd:x.kids.getD m 0=K:=(by rw [List.getD_eq_getElem?_getD,hK];rfl);rw [hKd]at LG AR;have HVN:=ag (aJ LG (aJ ha' hb'));have HGK:=ag E3;have HKD:=ag fun w' (hb:aq w w')=>(by have:=Bq (lf:=false) (ev:=ah ae x.aI ne) (dv:=ah ad x.kids rV) (bv:=ah ab x.buf oN) (x:=key) (ZR.below hb aO) hks;rw [hm]at this;exact this :
        Calls Tryz.prog 118 #[.agg #[.bool false,ah ae x.aI ne,ah ak x.keys nk,ah ad x.kids rV,ah ab x.buf oN],af key] w' fun r w''=>r = .returned (af m)/\aq w' w'')
       obtain⟨kb,A6,XR,ke,hkb,hkc⟩:=gM.get (HDD.below Vl aO) hK;injection ke with XQ _ XP;subst XQ XP;have HS:=ag fun w' (hb:aq wc w')=>(by
        have gc:∀b o,b<wc.heap.size->w'.cell? ⟨b,o,none⟩=wc.cell? ⟨b,o,none⟩:=fun b o h=>hb.cell (p:=⟨b,o,none⟩) h;rw [gc _ _ Rs,gc _ _ Rs,gc _ _ Rs,gc _ _ Rs,gc _ _ Rs,gc _ _ hkb];exact⟨x0,x1,x2,x3,x4,hkc⟩:w'.cell? (wr,0)=some (.bool false)/\w'.cell? (wr,1)=some (ah ae x.aI ne)/\w'.cell? (wr,2)=some (ah ak x.keys nk)/\w'.cell? (wr,3)=some (ah (some (kb,A6)) x.kids rV)/\w'.cell? (wr,4)=some (ah ab x.buf oN)/\(w',kb,A6+m,K))
       have agJ:=fun w'=>jL (ab:=kb) (aR:=A6) (n:=x.kids.length) (cap:=rV) (show (m:Int)=((m:Nat):Int) by rfl) hkl w';have b0:aq wc wc.drew:=(aW _ _).drew;have hs0:=HS _ b0;clear hl hks hm hK hKd LG ha' hb' E3 x1 x2 x3 x4 hkc kn;go_wp2_with fail
       go_region_held3 (fun w'=>w'.cell? (wr,0)=some (.bool false)/\w'.cell? (wr,1)=some (ah ae x.aI ne)/\w'.cell? (wr,2)=some (ah ak x.keys nk)/\w'.cell? (wr,3)=some (ah (some (kb,A6)) x.kids rV)/\w'.cell? (wr,4)=some (ah ab x.buf oN)/\(w',kb,A6+m,K))
        (first|with_reducible exact hs0|(with_reducible refine HS.out _ ?_;exact aj))
        (first
         |(go_at_call 118;(with_reducible refine(HKD.out _ ?_).mono ?_);(exact aF Vl b0 Vl.size);rintro e' w5 ⟨rfl,BE⟩;have cy:aq wc w5:=aF b0 BE aO))
       all_goals
        go_wp2_with fail;go_roundg f'
        case measure=>have:=HGK.out;omega
        case rel=>exact⟨f',K,a',b',l',h',r',by have:=HGK.out;omega,rfl,rfl,HVN,(by have:=AR.out;rw [HGK]at this;exact ag this),ag (V6.out.later cy aO)⟩
  ·have HR:=ag (show Ej t key=(ax.zero,2) by rw [Bt,aw hf,ar hr]);rw [hf]at jD;obtain⟨z0,z1,z2,z3,z4,z5,zf⟩:=cJ k1;have HZ:=ag fun w' (hb:aq W0 w')=>(hb.block (w+1) ai).trans k1;have HB:=ag fun w' (hb:aq W0 w')=>(aF hb0 hb hb0.size:aq w w');clear z0 z1 z2 z3 z4 z5 zf hf k0 k1;by_cases hr0:key<0
   ·clear hr;go_wp2_with ((go_at_call 107;(with_reducible refine jD.out.mono ?_);rintro e w1 ⟨rfl,hb1⟩;have hz:=HZ _ hb1;obtain⟨z0,z1,z2,z3,z4,z5,zf⟩:=cJ hz;have cT:=HB _ hb1));rw [HR];exact bW (v:= .tuple #[.agg #[af 0,af 0,af 0,af 0,af 0,af 0],af 2]) (by simp [results,Tryz.results108,go_sem, *]) rfl ⟨rfl,aj⟩
   ·have hr1:1099511627776<=key:=ai;clear hr;go_wp2_with ((go_at_call 107;(with_reducible refine jD.out.mono ?_);rintro e w1 ⟨rfl,hb1⟩;have hz:=HZ _ hb1;obtain⟨z0,z1,z2,z3,z4,z5,zf⟩:=cJ hz;have cT:=HB _ hb1));rw [HR];exact bW (v:= .tuple #[.agg #[af 0,af 0,af 0,af 0,af 0,af 0],af 2]) (by simp [results,Tryz.results108,go_sem, *]) rfl ⟨rfl,aj⟩
 ·have HR:=ag (show Ej t key=(ax.zero,aC t) by rw [Bt,ar hf]);have d2:(aC t != 0)=true:=by simp [hf]
  obtain⟨F,hF⟩:=bG (aC t);rw [hF]at jD HR d2;have HZ:=ag fun w' (hb:aq W0 w')=>(hb.block (w+1) ai).trans k1;have HB:=ag fun w' (hb:aq W0 w')=>(aF hb0 hb hb0.size:aq w w');clear hf hF k0 k1;go_wp2_with ((go_at_call 107;(with_reducible refine jD.out.mono ?_);rintro e w1 ⟨rfl,hb1⟩;have hz:=HZ _ hb1;obtain⟨z0,z1,z2,z3,z4,z5,zf⟩:=cJ hz;have cT:=HB _ hb1));rw [HR];exact bW (v:= .tuple #[.agg #[af 0,af 0,af 0,af 0,af 0,af 0],af F]) (by simp [results,Tryz.results108,go_sem, *]) rfl ⟨rfl,aj⟩
end
end Go.Proofs.YtmljjfhgciaceaaGreatDoor
