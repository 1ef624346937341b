/- Texts of mine that come as one: Got GetW. -/
import Derived.Test.YtmljjfhgciaceaaDoorSX
import Derived.Test.YtmljjfhgciaceaaDoorBK
import Derived.Test.YtmljjfhgciaceaaDoorHd
import Derived.Test.YtmljjfhgciaceaaDoorPA
import Derived.Test.YtmljjfhgciaceaaDoorIG
import Derived.Test.YtmljjfhgciaceaaDoorNC
import Derived.Test.YtmljjfhgciaceaaDoorKG
namespace Go.Proofs.YtmljjfhgciaceaaDoor
open Go.RowKit
noncomputable def Ar (t:Tr) (key:Int):au×Int:=if ax t=0 then(if 0<=key/\key<=1099511627775 then TN t key else(au.zero,2)) else(au.zero,ax t)
theorem cG {w:World} {b:Nat} {a0 a1 a2 a3 a4 a5:Value} {T:TypeId} (h:w.heap[b]?=some (.cells #[a0,a1,a2,a3,a4,a5] T)) :
  w.cell? ⟨b,0,none⟩=some a0/\w.cell? ⟨b,1,none⟩=some a1/\w.cell? ⟨b,2,none⟩=some a2/\w.cell? ⟨b,3,none⟩=some a3/\w.cell? ⟨b,4,none⟩=some a4/\w.cell? ⟨b,5,none⟩=some a5/\∀o,w.frozen? ⟨b,o,none⟩=false:=by
 simp [World.cell?,World.frozen?,h]
section
set_option maxRecDepth 100000
set_option maxHeartbeats 1000000
variable {ob:Nat} {r:au} {tv:Value} {w wr:World}
structure vr (w:World) (ob:Nat) (tv:Value) (root:Int) (wr:World) (r:au):Prop where
 below:ah w wr
 box:wr.heap[w.heap.size]?=some (.cells #[tv, .int .i64 root] 32)
 res:wr.heap[w.heap.size+1]?=some (.cells #[.int .i64 0, .int .i64 0, .int .i64 0, .int .i64 0, .int .i64 0, .int .i64 0] 42)
 lt:w.heap.size+1<ob
 out:wr.heap[ob]?=some (.cells #[.int .i64 r.c, .int .i64 r.s, .int .i64 r.mi, .int .i64 r.ma, .int .i64 r.t, .int .i64 r.l] 42)
theorem vr.later {root:Int} {wr':World} (h:vr w ob tv root wr r) {C:Nat} (hb:Below C wr wr') (hC:wr.heap.size<=C):vr w ob tv root wr' r:=by
 have l0:=(eW.1 h.box).1
 have l1:=(eW.1 h.res).1
 have l2:=(eW.1 h.out).1
 exact⟨Below.trans' h.below (hb.mono hC) h.below.size,(hb.block _ af).trans h.box,(hb.block _ af).trans h.res,h.lt,(hb.block _ af).trans h.out⟩
theorem yg (t:Tr) (key:Int):Ar t key=if ax t=0 then(if 0<=key/\key<=1099511627775 then GQ t key else(au.zero,2)) else(au.zero,ax t):=by
 unfold Ar
 by_cases hf:ax t=0
 ·rw [ar hf,ar hf]
  by_cases hr:0<=key/\key<=1099511627775
  ·rw [ar hr,ar hr,Qh (cW hf).2,IP (cW hf).2 hr.1 af]
  ·rw [ai hr,ai hr]
 ·rw [ai hf,ai hf]
theorem tI {B b:Nat} {v0 v1 v2 v3 v4 v5:Value} (h:b≠B) :
  ((((((w.setCell ⟨B,0,none⟩ v0).setCell ⟨B,1,none⟩ v1).setCell ⟨B,2,none⟩ v2).setCell ⟨B,3,none⟩ v3).setCell ⟨B,4,none⟩ v4).setCell ⟨B,5,none⟩ v5).heap[b]?=w.heap[b]?:=by
 have g:∀(w:World) (o:Nat) (v:Value),(w.setCell ⟨B,o,none⟩ v).heap[b]?=w.heap[b]?:=fun w o v=>qc w ⟨B,o,none⟩ v b h
 rw [g,g,g,g,g,g]
theorem vr.set {root:Int} (h:vr w ob tv root wr r) (q:au) :
  vr w ob tv root ((((((wr.setCell ⟨ob,0,none⟩ (.int .i64 q.c)).setCell ⟨ob,1,none⟩ (.int .i64 q.s)).setCell ⟨ob,2,none⟩ (.int .i64 q.mi)).setCell ⟨ob,3,none⟩ (.int .i64 q.ma)).setCell ⟨ob,4,none⟩ (.int .i64 q.t)).setCell ⟨ob,5,none⟩ (.int .i64 q.l)) q:=by
 have hl:=h.lt
 have hb:=h.below
 exact⟨ag,by rw [tI af];exact h.box,by rw [tI af];exact h.res,hl,jO h.out⟩
theorem Ch {v:Value} {t:Tr} {key:Int} (h:bL w v t) :
  Calls Tryd.prog 74 #[v, .int .i64 key] w fun e w'=>e = .returned (.tuple #[(Ar t key).1.v, .int .i64 (Ar t key).2])/\ah w w':=by
 obtain⟨nv,rfl,hn⟩:=h
 obtain⟨⟨ao,cap,rfl⟩,hlen⟩:=hn.len
 obtain⟨W0,hW0⟩:=bQ ((w.alloc (.cells #[.slice ao t.nodes.length cap, .int .i64 t.root] 32)).alloc (.cells #[.int .i64 0, .int .i64 0, .int .i64 0, .int .i64 0, .int .i64 0, .int .i64 0] 42))
 have hb0:ah w W0:=by rw [hW0];exact ag
 have hz0:W0.heap.size=w.heap.size+2:=by rw [hW0];simp
 have k0:W0.heap[w.heap.size]?=some (.cells #[.slice ao t.nodes.length cap, .int .i64 t.root] 32):=by
  rw [hW0,lJ _ _ _ bq];exact aq _ _ rfl
 have k1:W0.heap[w.heap.size+1]?=some (.cells #[.int .i64 0, .int .i64 0, .int .i64 0, .int .i64 0, .int .i64 0, .int .i64 0] 42):=by
  rw [hW0];exact aq _ _ bq
 have hn0:=hn.below hb0 aI
 have iB:=hdd (jr (t:=t) (w:=W0) (v:= .agg #[.slice ao t.nodes.length cap, .int .i64 t.root]) ⟨_,rfl,hn0⟩)
 obtain⟨q0,q1⟩:W0.cell? ⟨w.heap.size,0,none⟩=some (.slice ao t.nodes.length cap)/\W0.cell? ⟨w.heap.size,1,none⟩=some (.int .i64 t.root):=by simp [World.cell?,k0]
 go_enter Tryd.func74,Tryd.ntmps74
 go_upto_region 1 with (fail)
 rw [<-hW0]
 clear hW0
 by_cases hf:ax t=0
 ·by_cases hr:0<=key/\key<=1099511627775
  ·have HGS:=hdd (show Ar t key=GQ t key by rw [yg,ar hf,ar hr])
   rw [hf]at iB
   have hr1:key<1099511627776:=af
   have PR:0<=key:=hr.1
   go_upto_region 6 with ((go_at_call 73;(with_reducible refine iB.out.mono ?_);rintro e w1 ⟨rfl,hb1⟩))
   have k10:w1.heap[w.heap.size]?=_:=(hb1.block _ af).trans k0
   have k11:w1.heap[w.heap.size+1]?=_:=(hb1.block _ af).trans k1
   have D8:ah w w1:=Below.trans' hb0 hb1 hb0.size
   have hs1:w.heap.size+2<=w1.heap.size:=by have:=hb1.size;omega
   obtain⟨E7,q1'⟩:w1.cell? ⟨w.heap.size,0,none⟩=some (.slice ao t.nodes.length cap)/\w1.cell? ⟨w.heap.size,1,none⟩=some (.int .i64 t.root):=by simp [World.cell?,k10]
   clear q0 q1 k0 k1 hb1 iB hn0
   have n1:w.heap.size<w1.heap.size:=af
   obtain⟨ob,oN⟩:=bQ (w1.heap.size)
   obtain⟨W2,hW2⟩:=bQ (w1.alloc (.cells #[.int .i64 0, .int .i64 0, .int .i64 0, .int .i64 0, .int .i64 0, .int .i64 0] 42))
   have hst:vr w ob (.slice ao t.nodes.length cap) t.root W2 au.zero:=by
    rw [hW2,oN]
    exact⟨ag,by rw [lJ _ _ _ af];exact k10,by rw [lJ _ _ _ af];exact k11,af,aq _ _ rfl⟩
   have HST:=hdd hst
   go_upto_region 8 with (fail)
   rw [<-oN,<-hW2]
   obtain⟨lv,hv0,e0,-,-⟩:=(cW hf).2
   have HV:=hdd e0
   have HF:=hdd hf
   clear hst hW2 k10 k11 E7 q1' n1 hs1 D8 oN e0 hf
   have HN:=hdd hn
   go_loopg [8] 11 (fun g nv wr=>∃(f:Nat) (n a b:Int) (l:List Int) (h:Nat) (r:au),f<=11/\g=f+0/\nv = .int .i64 n/\Hid (mK t (f+1) n a b=some (l,h)/\a<=key/\key<b)/\Hid (oM t key r (oV t key (f+1) n))/\Hid (vr w ob (.slice ao t.nodes.length cap) t.root wr r))
   case atStart=>exact⟨11,t.root,0,1099511627776,lv,hv0,au.zero,kK _,rfl,rfl,hdd ⟨HV.out,PR,hr1⟩,hdd Ci,HST⟩
   case round=>
    obtain⟨f,n,a,b,l,h,r,hf,rfl,rfl,Zi,Hu,K4⟩:=hrel
    obtain⟨x,hx⟩:=yt Zi.out.1
    obtain⟨hn0,Gy,xn⟩:=vd hx
    obtain⟨j,hj⟩:∃j:Nat,n=j:=⟨n.toNat,af⟩
    subst hj
    rw [Int.toNat_natCast]at Gy xn
    obtain⟨nb,gL,c,ev,kv,dv,bv,e0,hnb,hE,hK,hD,hB,c0,c1,c2,c3,c4⟩:=pQ HN.out K4.out.below xn
    injection e0 with e0 _ e2
    subst e0 e2
    obtain⟨ae,ne,rfl⟩:=hE.isSlice
    obtain⟨ak,nk,rfl⟩:=hK.isSlice
    obtain⟨ad,tT,rfl⟩:=hD.isSlice
    obtain⟨ab,oZ,rfl⟩:=hB.isSlice
    have zU:=hdd (Nb HF.out Zi.out.1 hx Zi.out.2.1 Zi.out.2.2)
    obtain⟨q0,q1⟩:wr.cell? ⟨w.heap.size,0,none⟩=some (.slice (some ⟨nb,gL,none⟩) t.nodes.length cap)/\wr.cell? ⟨w.heap.size,1,none⟩=some (.int .i64 t.root):=by simp [World.cell?,K4.out.box]
    have hbz:=K4.out.below.size
    have im:=fun w'=>dS (ab:=nb) (aY:=gL) (n:=t.nodes.length) (cap:=cap) (show (j:Int)=((j:Nat):Int) by rfl) Gy w'
    have n0:nb<wr.heap.size:=af
    have HE:=hdd hE
    have HB:=hdd hB
    have Bx:=hdd hK
    have HDD:=hdd hD
    clear hE hB hK hD hx hn0
    obtain⟨W8,mf⟩:=bQ (wr.alloc (.cells #[.bool x.leaf, .slice ae x.aF.length ne, .slice ak x.keys.length nk, .slice ad x.kids.length tT, .slice ab x.buf.length oZ] 119))
    have kZ:ah wr W8:=by rw [mf];exact ag
    have k8:W8.heap[wr.heap.size]?=some (.cells #[.bool x.leaf, .slice ae x.aF.length ne, .slice ak x.keys.length nk, .slice ad x.kids.length tT, .slice ab x.buf.length oZ] 119):=by rw [mf];exact aq _ _ rfl
    have UG:=hdd (K4.out.later kZ aI)
    go_upto_region 9 with (fail)
    rw [<-mf]
    clear mf q0 q1 c0 c1 c2 c3 c4 im
    obtain⟨x0,x1,x2,x3,x4⟩:W8.cell? ⟨wr.heap.size,0,none⟩=some (.bool x.leaf)/\W8.cell? ⟨wr.heap.size,1,none⟩=some (.slice ae x.aF.length ne)/\W8.cell? ⟨wr.heap.size,2,none⟩=some (.slice ak x.keys.length nk)/\W8.cell? ⟨wr.heap.size,3,none⟩=some (.slice ad x.kids.length tT)/\W8.cell? ⟨wr.heap.size,4,none⟩=some (.slice ab x.buf.length oZ):=by simp [World.cell?,k8]
    obtain⟨L,hL⟩:=bw (x.own)
    rw [hL]at zU
    obtain⟨la,lc,Y7⟩:∃la lc,(x.leaf=true->la=ae/\lc=ne/\L=x.aF)/\(x.leaf=false->la=ab/\lc=oZ/\L=x.buf):=by
     cases hl:x.leaf with
     |true=>exact⟨ae,ne,fun _=>⟨rfl,rfl,by rw [<-hL];simp [Nd.own,hl]⟩,fun h=>by cases h⟩
     |false=>exact⟨ab,oZ,fun h=>(by cases h),fun _=>⟨rfl,rfl,by rw [<-hL];simp [Nd.own,hl]⟩⟩
    have HLV:=hdd Y7
    have RF:=hdd (show eQ w (.slice la L.length lc) L by
     cases hl:x.leaf with
     |true=>obtain⟨rfl,rfl,rfl⟩:=Y7.1 hl;exact HE.out
     |false=>obtain⟨rfl,rfl,rfl⟩:=Y7.2 hl;exact HB.out)
    clear hL Y7
    go_upto_if 39 with (fail)
    go_cut [10] (fun v wx=>v = .slice la L.length lc/\W8=wx)
    case first=>
     cases hl:x.leaf with
     |true=>
      have h1:=HLV.out.1 hl
      rw [hl]at x0
      obtain⟨g1,g2,g3⟩:=h1
      have HG3:=hdd g3
      subst g1 g2
      clear g3 hl
      go_wp2
      go_meet
      exact⟨by rw [HG3.out],rfl⟩
     |false=>
      have h1:=HLV.out.2 hl
      rw [hl]at x0
      obtain⟨g1,g2,g3⟩:=h1
      have HG3:=hdd g3
      subst g1 g2
      clear g3 hl
      go_wp2
      go_meet
      exact⟨by rw [HG3.out],rfl⟩
    case rest=>
     obtain⟨rfl,rfl⟩:=hcut
     have HA:=hdd (Ct (x:=key) (w:=W8) (RF.out.below UG.out.below aI) zU.out.1 (fun e he=>by have:=zU.out.2.2.1 e he;omega))
     obtain⟨hs,GF⟩:=bw (qW L key)
     obtain⟨ps,hps⟩:=bw (ic L key)
     rw [GF,hps]at HA
     have HHS:=hdd GF
     have HPS:=hdd hps
     obtain⟨TL,hTL⟩:=bQ ((if x.leaf=true then []else oV t key gk (x.kids.getD (aX x.keys key) 0)))
     have N6:=hdd (show oM t key r (L.filter (fun e=>decide (e.key=key))++TL) by
      have:=Hu.out;rw [zU.out.2.2.2.1]at this;rw [hTL];exact this)
     have HTL:=hdd hTL
     clear GF hps hTL x0 x1 x2 x3 x4 Hu
     go_upto_if 48 with ((go_at_call 94;(with_reducible refine HA.out.mono ?_);rintro e w9 ⟨rfl,oO⟩))
     have k9:w9.heap[wr.heap.size]?=_:=(oO.block _ (eW.1 k8).1).trans k8
     have H9:=hdd (UG.out.later oO aI)
     have JW:ob<w9.heap.size:=(eW.1 H9.out.out).1
     have aae:wr.heap.size<w9.heap.size:=(eW.1 k9).1
     have MX:w.heap.size<=w9.heap.size:=H9.out.below.size
     have afN:ob<wr.heap.size:=(eW.1 K4.out.out).1
     clear k8 kZ oO HA
     go_cut [] (fun wx=>∃r',Hid (vr w ob (.slice (some ⟨nb,gL,none⟩) t.nodes.length cap) t.root wx r')/\wx.heap[wr.heap.size]?=some (.cells #[.bool x.leaf, .slice ae x.aF.length ne, .slice ak x.keys.length nk, .slice ad x.kids.length tT, .slice ab x.buf.length oZ] 119)/\Hid (oM t key r' TL))
     case first=>
      cases hs with
      |false=>
       go_wp2
       go_meet
       exact⟨r,H9,k9,hdd (Ee HHS.out N6.out)⟩
      |true=>
       obtain⟨i,hi,hp,-,hfl⟩:=Bg zU.out.1 HHS.out
       obtain rfl:i=ps:=hp.symm.trans HPS.out
       have afI:i<L.length:=hi
       obtain⟨_,_,hv,-,-,-,-,h5⟩:=RF.out
       injection hv with g1 _ g3
       subst g1 g3
       obtain⟨eb,bZ,lR,rW,nH⟩:=h5 af
       subst lR
       obtain⟨-,y1,y2,y3,y4,y5,y6⟩:=bR H9.out.below rW nH hi
       have EZ:=hdd (Ed (hi:=hi) (zU.out.2.1 _ (fO hi)).2 hfl N6.out)
       obtain⟨y,hy⟩:=bw (L[i].is)
       rw [hy]at y1 y2 y3 y4 y5 y6 EZ
       obtain⟨J,E,GM⟩:∃J E,bG r y=(J,E):=⟨_,_,rfl⟩
       have CC:=hdd GM
       have HM:=hdd fun w'=>(by have:=ja r y w';rw [GM]at this;exact this :
        Calls Tryd.prog 18 #[.agg #[.int .i64 r.c, .int .i64 r.s, .int .i64 r.mi, .int .i64 r.ma, .int .i64 r.t, .int .i64 r.l], .agg #[.int .i64 y.c, .int .i64 y.s, .int .i64 y.mi, .int .i64 y.ma, .int .i64 y.t, .int .i64 y.l]] w' fun e' w5=>e' = .returned (.tuple #[.agg #[.int .i64 J.c, .int .i64 J.s, .int .i64 J.mi, .int .i64 J.ma, .int .i64 J.t, .int .i64 J.l], .int .i64 E])/\ah w' w5)
       obtain⟨o0,o1,o2,o3,o4,o5,-⟩:=cG H9.out.out
       have GC:=fun w'=>dD (ab:=eb) (aY:=bZ) (n:=L.length) (cap:=lc) (show (i:Int)=((i:Nat):Int) by rfl) hi w'
       have HS:=hdd fun w' (hb:ah w9 w')=>(by
        have gc:∀b o,b<w9.heap.size->w'.cell? ⟨b,o,none⟩=w9.cell? ⟨b,o,none⟩:=fun b o h=>hb.cell (p:=⟨b,o,none⟩) h
        have GH:eb<w9.heap.size:=af
        rw [gc _ _ JW,gc _ _ JW,gc _ _ JW,gc _ _ JW,gc _ _ JW,gc _ _ JW,gc _ _ GH,gc _ _ GH,gc _ _ GH,gc _ _ GH,gc _ _ GH,gc _ _ GH]
        exact⟨o0,o1,o2,o3,o4,o5,y1,y2,y3,y4,y5,y6⟩:w'.cell? ⟨ob,0,none⟩=some (.int .i64 r.c)/\w'.cell? ⟨ob,1,none⟩=some (.int .i64 r.s)/\w'.cell? ⟨ob,2,none⟩=some (.int .i64 r.mi)/\w'.cell? ⟨ob,3,none⟩=some (.int .i64 r.ma)/\w'.cell? ⟨ob,4,none⟩=some (.int .i64 r.t)/\w'.cell? ⟨ob,5,none⟩=some (.int .i64 r.l)/\w'.cell? ⟨eb,bZ+i*7+1,none⟩=some (.int .i64 y.c)/\w'.cell? ⟨eb,bZ+i*7+2,none⟩=some (.int .i64 y.s)/\w'.cell? ⟨eb,bZ+i*7+3,none⟩=some (.int .i64 y.mi)/\w'.cell? ⟨eb,bZ+i*7+4,none⟩=some (.int .i64 y.ma)/\w'.cell? ⟨eb,bZ+i*7+5,none⟩=some (.int .i64 y.t)/\w'.cell? ⟨eb,bZ+i*7+6,none⟩=some (.int .i64 y.l))
       have b0:ah w9 w9.drew:=(aJ _ _).drew
       have hs0:=HS.out _ b0
       clear nH h5 hfl hp GM hy y1 y2 y3 y4 y5 y6 o0 o1 o2 o3 o4 o5
       go_upto_region 14 with (fail)
       go_cut [13,14] (fun p c wx=>∃g:Nat,p = .pointer (some ⟨g,0,none⟩)/\c = .int .i64 E/\wx.heap[g]?=some (.cells #[.int .i64 J.c, .int .i64 J.s, .int .i64 J.mi, .int .i64 J.ma, .int .i64 J.t, .int .i64 J.l] 42)/\w9.heap.size<=g/\ah w9 wx)
       case first=>
        go_region_held3 (fun w'=>w'.cell? ⟨ob,0,none⟩=some (.int .i64 r.c)/\w'.cell? ⟨ob,1,none⟩=some (.int .i64 r.s)/\w'.cell? ⟨ob,2,none⟩=some (.int .i64 r.mi)/\w'.cell? ⟨ob,3,none⟩=some (.int .i64 r.ma)/\w'.cell? ⟨ob,4,none⟩=some (.int .i64 r.t)/\w'.cell? ⟨ob,5,none⟩=some (.int .i64 r.l)/\w'.cell? ⟨eb,bZ+i*7+1,none⟩=some (.int .i64 y.c)/\w'.cell? ⟨eb,bZ+i*7+2,none⟩=some (.int .i64 y.s)/\w'.cell? ⟨eb,bZ+i*7+3,none⟩=some (.int .i64 y.mi)/\w'.cell? ⟨eb,bZ+i*7+4,none⟩=some (.int .i64 y.ma)/\w'.cell? ⟨eb,bZ+i*7+5,none⟩=some (.int .i64 y.t)/\w'.cell? ⟨eb,bZ+i*7+6,none⟩=some (.int .i64 y.l))
         (first|with_reducible exact hs0|(with_reducible refine HS.out _ ?_;exact ag))
         (first
          |(go_at_call 18;(with_reducible refine(HM.out _).mono ?_);rintro e' w5 ⟨rfl,BE⟩;guard_hyp BE:Below w9.drew.heap.size w9.drew w5;have cx:ah w9 w5:=Below.trans' (show ah w9 _ from ag) BE (by first|omega|(simp;done)|(simp;omega)|(simp [aL];done)|(simp [aL];omega));have Mv:=cx.size)
          |(go_at_call 18;(with_reducible refine(HM.out _).mono ?_);rintro e' w5 ⟨rfl,BE⟩;obtain⟨q5,z0,z1,z2,z3,z4,z5,zf⟩:=vF BE;have cx:ah w9 w5:=Below.trans' (show ah w9 _ from ag) BE (by first|omega|(simp;done)|(simp;omega)|(simp [aL];done)|(simp [aL];omega));have Mv:=cx.size))
        all_goals
         go_wp2_with fail
         go_meet
         refine⟨_,rfl,rfl,?_,?_,?_⟩
         ·first
          |with_reducible exact aq _ _ rfl
          |with_reducible exact jO q5
         ·(first|omega|(simp;done)|(simp;omega))
         ·exact ag
       case rest=>
        obtain⟨g,rfl,rfl,hg,S9,hbc⟩:=hcut
        have QC:=hdd (H9.out.later hbc aI)
        have kc:wc.heap[wr.heap.size]?=_:=(hbc.block _ aae).trans k9
        obtain⟨j0,j1,j2,j3,j4,j5,-⟩:=cG hg
        obtain⟨o0,o1,o2,o3,o4,o5,of⟩:=cG QC.out.out
        obtain⟨z0,z1,z2,z3,z4,z5,zf⟩:=cG QC.out.res
        have P4:=QC.out.below
        clear hs0 b0 k9
        by_cases hcc:r.c+y.c<=1073741824
        ·obtain⟨t1,t2⟩:=EZ.out.1 hcc
         obtain⟨rfl,rfl⟩:=Prod.mk.inj (CC.out.symm.trans t1)
         have rD:=hdd t2
         generalize r.join y=J at *
         clear t1 t2 hcc EZ CC HM
         go_wp2
         go_meet
         exact⟨J,hdd (QC.out.set J),by rw [tI af];exact kc,rD⟩
        ·obtain⟨t1,t2⟩:=EZ.out.2 hcc
         obtain⟨rfl,rfl⟩:=Prod.mk.inj (CC.out.symm.trans t1)
         have rD:=hdd (HGS.out.trans t2)
         clear t1 t2 hcc EZ CC HM
         go_wp2
         rw [rD.out]
         exact bodyPost_ret (v:= .tuple #[.agg #[.int .i64 0, .int .i64 0, .int .i64 0, .int .i64 0, .int .i64 0, .int .i64 0], .int .i64 1]) (by simp [results,Tryd.results74,go_sem, *]) rfl ⟨rfl,ag⟩
     case rest=>
      obtain⟨r',QB,kn,Ru⟩:=hcut
      clear H9 k9 UG K4 N6
      have Ms:wr.heap.size<wc.heap.size:=(eW.1 kn).1
      obtain⟨x0,x1,x2,x3,x4⟩:wc.cell? ⟨wr.heap.size,0,none⟩=some (.bool x.leaf)/\wc.cell? ⟨wr.heap.size,1,none⟩=some (.slice ae x.aF.length ne)/\wc.cell? ⟨wr.heap.size,2,none⟩=some (.slice ak x.keys.length nk)/\wc.cell? ⟨wr.heap.size,3,none⟩=some (.slice ad x.kids.length tT)/\wc.cell? ⟨wr.heap.size,4,none⟩=some (.slice ab x.buf.length oZ):=by simp [World.cell?,kn]
      have P4:=QB.out.below
      cases hl:x.leaf with
      |true=>
       rw [hl]at x0
       have HR:=hdd (HGS.out.trans (GR (by have:=Ru.out;rw [HTL.out,ar hl]at this;exact this)))
       obtain⟨o0,o1,o2,o3,o4,o5,of⟩:=cG QB.out.out
       obtain⟨z0,z1,z2,z3,z4,z5,zf⟩:=cG QB.out.res
       clear hl kn
       go_wp2
       rw [HR.out]
       exact bodyPost_ret (v:= .tuple #[.agg #[.int .i64 r'.c, .int .i64 r'.s, .int .i64 r'.mi, .int .i64 r'.ma, .int .i64 r'.t, .int .i64 r'.l], .int .i64 0]) (by simp [results,Tryd.results74,go_sem, *]) rfl ⟨rfl,ag⟩
      |false=>
       obtain⟨hks,hkl,f',a',b',l',h',E8,Gr,ha',hb'⟩:=zU.out.2.2.2.2 hl
       have N5:=hdd (show oM t key r' (oV t key gk (x.kids.getD (aX x.keys key) 0)) by have:=Ru.out;rw [HTL.out,ai (by simp [hl])]at this;exact this)
       rw [hl]at x0
       obtain⟨m,hm⟩:=bw (aX x.keys key)
       rw [hm]at hkl Gr N5
       obtain⟨K,hK⟩:∃K,x.kids[m]?=some K:=⟨x.kids[m],by simp [hkl]⟩
       have hKd:x.kids.getD m 0=K:=by rw [List.getD_eq_getElem?_getD,hK];rfl
       rw [hKd]at Gr N5
       have HVN:=hdd (aM Gr (aM ha' hb'))
       have HGK:=hdd E8
       have HKD:=hdd fun w' (hb:ah w w')=>(by have:=xV (lf:=false) (ev:= .slice ae x.aF.length ne) (dv:= .slice ad x.kids.length tT) (bv:= .slice ab x.buf.length oZ) (x:=key) (Bx.out.below hb aI) hks;rw [hm]at this;exact this :
        Calls Tryd.prog 95 #[.agg #[.bool false, .slice ae x.aF.length ne, .slice ak x.keys.length nk, .slice ad x.kids.length tT, .slice ab x.buf.length oZ], .int .i64 key] w' fun r w''=>r = .returned (.int .i64 m)/\ah w' w'')
       obtain⟨kb,Ai,VX,ke,hkb,hkc⟩:=gu.get (HDD.out.below P4 aI) hK
       injection ke with VW _ VT
       subst VW VT
       have HS:=hdd fun w' (hb:ah wc w')=>(by
        have gc:∀b o,b<wc.heap.size->w'.cell? ⟨b,o,none⟩=wc.cell? ⟨b,o,none⟩:=fun b o h=>hb.cell (p:=⟨b,o,none⟩) h
        rw [gc _ _ Ms,gc _ _ Ms,gc _ _ Ms,gc _ _ Ms,gc _ _ Ms,gc _ _ hkb]
        exact⟨x0,x1,x2,x3,x4,hkc⟩:w'.cell? ⟨wr.heap.size,0,none⟩=some (.bool false)/\w'.cell? ⟨wr.heap.size,1,none⟩=some (.slice ae x.aF.length ne)/\w'.cell? ⟨wr.heap.size,2,none⟩=some (.slice ak x.keys.length nk)/\w'.cell? ⟨wr.heap.size,3,none⟩=some (.slice (some ⟨kb,Ai,none⟩) x.kids.length tT)/\w'.cell? ⟨wr.heap.size,4,none⟩=some (.slice ab x.buf.length oZ)/\w'.cell? ⟨kb,Ai+m,none⟩=some (.int .i64 K))
       have agb:=fun w'=>lQ (ab:=kb) (aY:=Ai) (n:=x.kids.length) (cap:=tT) (show (m:Int)=((m:Nat):Int) by rfl) hkl w'
       have b0:ah wc wc.drew:=(aJ _ _).drew
       have hs0:=HS.out _ b0
       clear hl hks hm hK hKd Gr ha' hb' E8 x1 x2 x3 x4 hkc kn
       go_wp2_with fail
       go_region_held3 (fun w'=>w'.cell? ⟨wr.heap.size,0,none⟩=some (.bool false)/\w'.cell? ⟨wr.heap.size,1,none⟩=some (.slice ae x.aF.length ne)/\w'.cell? ⟨wr.heap.size,2,none⟩=some (.slice ak x.keys.length nk)/\w'.cell? ⟨wr.heap.size,3,none⟩=some (.slice (some ⟨kb,Ai,none⟩) x.kids.length tT)/\w'.cell? ⟨wr.heap.size,4,none⟩=some (.slice ab x.buf.length oZ)/\w'.cell? ⟨kb,Ai+m,none⟩=some (.int .i64 K))
        (first|with_reducible exact hs0|(with_reducible refine HS.out _ ?_;exact ag))
        (first
         |(go_at_call 95;(with_reducible refine(HKD.out _ ?_).mono ?_);(exact Below.trans' P4 b0 P4.size);rintro e' w5 ⟨rfl,BE⟩;have cx:ah wc w5:=Below.trans' b0 BE aI))
       all_goals
        go_wp2_with fail
        go_roundg f'
        case measure=>have:=HGK.out;omega
        case rel=>exact⟨f',K,a',b',l',h',r',by have:=HGK.out;omega,rfl,rfl,HVN,(by have:=N5.out;rw [HGK.out]at this;exact hdd this),hdd (QB.out.later cx aI)⟩
  ·have HR:=hdd (show Ar t key=(au.zero,2) by rw [yg,ar hf,ai hr])
   rw [hf]at iB
   obtain⟨z0,z1,z2,z3,z4,z5,zf⟩:=cG k1
   have HZ:=hdd fun w' (hb:ah W0 w')=>(hb.block (w.heap.size+1) af).trans k1
   have HB:=hdd fun w' (hb:ah W0 w')=>(Below.trans' hb0 hb hb0.size:ah w w')
   clear z0 z1 z2 z3 z4 z5 zf hf k0 k1
   by_cases PR:key<0
   ·clear hr
    go_wp2_with ((go_at_call 73;(with_reducible refine iB.out.mono ?_);rintro e w1 ⟨rfl,hb1⟩;have hz:=HZ.out _ hb1;obtain⟨z0,z1,z2,z3,z4,z5,zf⟩:=cG hz;have di:=HB.out _ hb1))
    rw [HR.out]
    exact bodyPost_ret (v:= .tuple #[.agg #[.int .i64 0, .int .i64 0, .int .i64 0, .int .i64 0, .int .i64 0, .int .i64 0], .int .i64 2]) (by simp [results,Tryd.results74,go_sem, *]) rfl ⟨rfl,ag⟩
   ·have hr1:1099511627776<=key:=af
    clear hr
    go_wp2_with ((go_at_call 73;(with_reducible refine iB.out.mono ?_);rintro e w1 ⟨rfl,hb1⟩;have hz:=HZ.out _ hb1;obtain⟨z0,z1,z2,z3,z4,z5,zf⟩:=cG hz;have di:=HB.out _ hb1))
    rw [HR.out]
    exact bodyPost_ret (v:= .tuple #[.agg #[.int .i64 0, .int .i64 0, .int .i64 0, .int .i64 0, .int .i64 0, .int .i64 0], .int .i64 2]) (by simp [results,Tryd.results74,go_sem, *]) rfl ⟨rfl,ag⟩
 ·have HR:=hdd (show Ar t key=(au.zero,ax t) by rw [yg,ai hf])
  have d2:(ax t != 0)=true:=by simp [hf]
  obtain⟨F,hF⟩:=bw (ax t)
  rw [hF]at iB HR d2
  have HZ:=hdd fun w' (hb:ah W0 w')=>(hb.block (w.heap.size+1) af).trans k1
  have HB:=hdd fun w' (hb:ah W0 w')=>(Below.trans' hb0 hb hb0.size:ah w w')
  clear hf hF k0 k1
  go_wp2_with ((go_at_call 73;(with_reducible refine iB.out.mono ?_);rintro e w1 ⟨rfl,hb1⟩;have hz:=HZ.out _ hb1;obtain⟨z0,z1,z2,z3,z4,z5,zf⟩:=cG hz;have di:=HB.out _ hb1))
  rw [HR.out]
  exact bodyPost_ret (v:= .tuple #[.agg #[.int .i64 0, .int .i64 0, .int .i64 0, .int .i64 0, .int .i64 0, .int .i64 0], .int .i64 F]) (by simp [results,Tryd.results74,go_sem, *]) rfl ⟨rfl,ag⟩
end
end Go.Proofs.YtmljjfhgciaceaaDoor
