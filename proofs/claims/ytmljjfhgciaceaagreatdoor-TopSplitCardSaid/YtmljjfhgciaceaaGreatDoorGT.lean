/- Texts of mine that come as one: Got GetW. -/
import Derived.Test.YtmljjfhgciaceaaGreatDoorSX
import Derived.Test.YtmljjfhgciaceaaGreatDoorBK
import Derived.Test.YtmljjfhgciaceaaGreatDoorHd
import Derived.Test.YtmljjfhgciaceaaGreatDoorPA
import Derived.Test.YtmljjfhgciaceaaGreatDoorIG
import Derived.Test.YtmljjfhgciaceaaGreatDoorNC
import Derived.Test.YtmljjfhgciaceaaGreatDoorKG
namespace Go.Proofs.YtmljjfhgciaceaaGreatDoor
open Go.RowKit
noncomputable def AB (t:Tr) (key:Int):av×Int:=if ax t=0 then(if 0<=key/\key<=1099511627775 then TZ t key else(av.zero,2)) else(av.zero,ax t)
theorem cI {w:World} {b:Nat} {a0 a1 a2 a3 a4 a5:Value} {T:TypeId} (h:w.heap[b]?=some (.cells #[a0,a1,a2,a3,a4,a5] T)) :
  w.cell? ⟨b,0,none⟩=some a0/\w.cell? ⟨b,1,none⟩=some a1/\w.cell? ⟨b,2,none⟩=some a2/\w.cell? ⟨b,3,none⟩=some a3/\w.cell? ⟨b,4,none⟩=some a4/\w.cell? ⟨b,5,none⟩=some a5/\∀o,w.frozen? ⟨b,o,none⟩=false:=by
 simp [World.cell?,World.frozen?,h]
section
set_option maxRecDepth 100000
set_option maxHeartbeats 1000000
variable {ob:Nat} {r:av} {tv:Value} {w wr:World}
structure vt (w:World) (ob:Nat) (tv:Value) (root:Int) (wr:World) (r:av):Prop where
 below:ah w wr
 box:wr.heap[w.heap.size]?=some (.cells #[tv, .int .i64 root] 27)
 res:wr.heap[w.heap.size+1]?=some (.cells #[.int .i64 0, .int .i64 0, .int .i64 0, .int .i64 0, .int .i64 0, .int .i64 0] 39)
 lt:w.heap.size+1<ob
 out:wr.heap[ob]?=some (.cells #[.int .i64 r.c, .int .i64 r.s, .int .i64 r.mi, .int .i64 r.ma, .int .i64 r.t, .int .i64 r.l] 39)
theorem vt.later {root:Int} {wr':World} (h:vt w ob tv root wr r) {C:Nat} (hb:Below C wr wr') (hC:wr.heap.size<=C):vt w ob tv root wr' r:=by
 have l0:=(eP.1 h.box).1
 have l1:=(eP.1 h.res).1
 have l2:=(eP.1 h.out).1
 exact⟨Below.trans' h.below (hb.mono hC) h.below.size,(hb.block _ af).trans h.box,(hb.block _ af).trans h.res,h.lt,(hb.block _ af).trans h.out⟩
theorem yl (t:Tr) (key:Int):AB t key=if ax t=0 then(if 0<=key/\key<=1099511627775 then GV t key else(av.zero,2)) else(av.zero,ax t):=by
 unfold AB
 by_cases hf:ax t=0
 ·rw [ar hf,ar hf]
  by_cases hr:0<=key/\key<=1099511627775
  ·rw [ar hr,ar hr,Qm (cW hf).2,IV (cW hf).2 hr.1 af]
  ·rw [ai hr,ai hr]
 ·rw [ai hf,ai hf]
theorem tM {B b:Nat} {v0 v1 v2 v3 v4 v5:Value} (h:b≠B) :
  ((((((w.setCell ⟨B,0,none⟩ v0).setCell ⟨B,1,none⟩ v1).setCell ⟨B,2,none⟩ v2).setCell ⟨B,3,none⟩ v3).setCell ⟨B,4,none⟩ v4).setCell ⟨B,5,none⟩ v5).heap[b]?=w.heap[b]?:=by
 have g:∀(w:World) (o:Nat) (v:Value),(w.setCell ⟨B,o,none⟩ v).heap[b]?=w.heap[b]?:=fun w o v=>qd w ⟨B,o,none⟩ v b h
 rw [g,g,g,g,g,g]
theorem vt.set {root:Int} (h:vt w ob tv root wr r) (q:av) :
  vt w ob tv root ((((((wr.setCell ⟨ob,0,none⟩ (.int .i64 q.c)).setCell ⟨ob,1,none⟩ (.int .i64 q.s)).setCell ⟨ob,2,none⟩ (.int .i64 q.mi)).setCell ⟨ob,3,none⟩ (.int .i64 q.ma)).setCell ⟨ob,4,none⟩ (.int .i64 q.t)).setCell ⟨ob,5,none⟩ (.int .i64 q.l)) q:=by
 have hl:=h.lt
 have hb:=h.below
 exact⟨ag,by rw [tM af];exact h.box,by rw [tM af];exact h.res,hl,jR h.out⟩
theorem Co {v:Value} {t:Tr} {key:Int} (h:bN w v t) :
  Calls Tryz.prog 108 #[v, .int .i64 key] w fun e w'=>e = .returned (.tuple #[(AB t key).1.v, .int .i64 (AB t key).2])/\ah w w':=by
 obtain⟨nv,rfl,hn⟩:=h
 obtain⟨⟨ao,cap,rfl⟩,hlen⟩:=hn.len
 obtain⟨W0,hW0⟩:=bR ((w.alloc (.cells #[.slice ao t.nodes.length cap, .int .i64 t.root] 27)).alloc (.cells #[.int .i64 0, .int .i64 0, .int .i64 0, .int .i64 0, .int .i64 0, .int .i64 0] 39))
 have hb0:ah w W0:=by rw [hW0];exact ag
 have hz0:W0.heap.size=w.heap.size+2:=by rw [hW0];simp
 have k0:W0.heap[w.heap.size]?=some (.cells #[.slice ao t.nodes.length cap, .int .i64 t.root] 27):=by
  rw [hW0,lI _ _ _ bt];exact aq _ _ rfl
 have k1:W0.heap[w.heap.size+1]?=some (.cells #[.int .i64 0, .int .i64 0, .int .i64 0, .int .i64 0, .int .i64 0, .int .i64 0] 39):=by
  rw [hW0];exact aq _ _ bt
 have hn0:=hn.below hb0 aI
 have iC:=hdd (js (t:=t) (w:=W0) (v:= .agg #[.slice ao t.nodes.length cap, .int .i64 t.root]) ⟨_,rfl,hn0⟩)
 obtain⟨q0,q1⟩:W0.cell? ⟨w.heap.size,0,none⟩=some (.slice ao t.nodes.length cap)/\W0.cell? ⟨w.heap.size,1,none⟩=some (.int .i64 t.root):=by simp [World.cell?,k0]
 go_enter Tryz.func108,Tryz.ntmps108
 go_upto_region 1 with (fail)
 rw [<-hW0]
 clear hW0
 by_cases hf:ax t=0
 ·by_cases hr:0<=key/\key<=1099511627775
  ·have HGS:=hdd (show AB t key=GV t key by rw [yl,ar hf,ar hr])
   rw [hf]at iC
   have hr1:key<1099511627776:=af
   have Vb:0<=key:=hr.1
   go_upto_region 6 with ((go_at_call 107;(with_reducible refine iC.out.mono ?_);rintro e w1 ⟨rfl,hb1⟩))
   have k10:w1.heap[w.heap.size]?=_:=(hb1.block _ af).trans k0
   have k11:w1.heap[w.heap.size+1]?=_:=(hb1.block _ af).trans k1
   have Eb:ah w w1:=Below.trans' hb0 hb1 hb0.size
   have hs1:w.heap.size+2<=w1.heap.size:=by have:=hb1.size;omega
   obtain⟨E9,q1'⟩:w1.cell? ⟨w.heap.size,0,none⟩=some (.slice ao t.nodes.length cap)/\w1.cell? ⟨w.heap.size,1,none⟩=some (.int .i64 t.root):=by simp [World.cell?,k10]
   clear q0 q1 k0 k1 hb1 iC hn0
   have n1:w.heap.size<w1.heap.size:=af
   obtain⟨ob,oI⟩:=bR (w1.heap.size)
   obtain⟨W2,hW2⟩:=bR (w1.alloc (.cells #[.int .i64 0, .int .i64 0, .int .i64 0, .int .i64 0, .int .i64 0, .int .i64 0] 39))
   have hst:vt w ob (.slice ao t.nodes.length cap) t.root W2 av.zero:=by
    rw [hW2,oI]
    exact⟨ag,by rw [lI _ _ _ af];exact k10,by rw [lI _ _ _ af];exact k11,af,aq _ _ rfl⟩
   have HST:=hdd hst
   go_upto_region 8 with (fail)
   rw [<-oI,<-hW2]
   obtain⟨lv,hv0,e0,-,-⟩:=(cW hf).2
   have HV:=hdd e0
   have HF:=hdd hf
   clear hst hW2 k10 k11 E9 q1' n1 hs1 Eb oI e0 hf
   have HN:=hdd hn
   go_loopg [8] 11 (fun g nv wr=>∃(f:Nat) (n a b:Int) (l:List Int) (h:Nat) (r:av),f<=11/\g=f+0/\nv = .int .i64 n/\Hid (mH t (f+1) n a b=some (l,h)/\a<=key/\key<b)/\Hid (oH t key r (oN t key (f+1) n))/\Hid (vt w ob (.slice ao t.nodes.length cap) t.root wr r))
   case atStart=>exact⟨11,t.root,0,1099511627776,lv,hv0,av.zero,kT _,rfl,rfl,hdd ⟨HV.out,Vb,hr1⟩,hdd Cq,HST⟩
   case round=>
    obtain⟨f,n,a,b,l,h,r,hf,rfl,rfl,Zo,H2,K6⟩:=hrel
    obtain⟨x,hx⟩:=yA Zo.out.1
    obtain⟨hn0,Cm,tW⟩:=ve hx
    obtain⟨j,hj⟩:∃j:Nat,n=j:=⟨n.toNat,af⟩
    subst hj
    rw [Int.toNat_natCast]at Cm tW
    obtain⟨nb,gL,c,ev,kv,dv,bv,e0,hnb,hE,hK,hD,hB,c0,c1,c2,c3,c4⟩:=pO HN.out K6.out.below tW
    injection e0 with e0 _ e2
    subst e0 e2
    obtain⟨ae,ne,rfl⟩:=hE.isSlice
    obtain⟨ak,nk,rfl⟩:=hK.isSlice
    obtain⟨ad,tV,rfl⟩:=hD.isSlice
    obtain⟨ab,oQ,rfl⟩:=hB.isSlice
    have Ab:=hdd (Ng HF.out Zo.out.1 hx Zo.out.2.1 Zo.out.2.2)
    obtain⟨q0,q1⟩:wr.cell? ⟨w.heap.size,0,none⟩=some (.slice (some ⟨nb,gL,none⟩) t.nodes.length cap)/\wr.cell? ⟨w.heap.size,1,none⟩=some (.int .i64 t.root):=by simp [World.cell?,K6.out.box]
    have hbz:=K6.out.below.size
    have iw:=fun w'=>dR (ab:=nb) (bp:=gL) (n:=t.nodes.length) (cap:=cap) (show (j:Int)=((j:Nat):Int) by rfl) Cm w'
    have n0:nb<wr.heap.size:=af
    have HE:=hdd hE
    have HB:=hdd hB
    have BI:=hdd hK
    have HDD:=hdd hD
    clear hE hB hK hD hx hn0
    obtain⟨W8,mO⟩:=bR (wr.alloc (.cells #[.bool x.leaf, .slice ae x.aF.length ne, .slice ak x.keys.length nk, .slice ad x.kids.length tV, .slice ab x.buf.length oQ] 125))
    have kQ:ah wr W8:=by rw [mO];exact ag
    have k8:W8.heap[wr.heap.size]?=some (.cells #[.bool x.leaf, .slice ae x.aF.length ne, .slice ak x.keys.length nk, .slice ad x.kids.length tV, .slice ab x.buf.length oQ] 125):=by rw [mO];exact aq _ _ rfl
    have UT:=hdd (K6.out.later kQ aI)
    go_upto_region 9 with (fail)
    rw [<-mO]
    clear mO q0 q1 c0 c1 c2 c3 c4 iw
    obtain⟨x0,x1,x2,x3,x4⟩:W8.cell? ⟨wr.heap.size,0,none⟩=some (.bool x.leaf)/\W8.cell? ⟨wr.heap.size,1,none⟩=some (.slice ae x.aF.length ne)/\W8.cell? ⟨wr.heap.size,2,none⟩=some (.slice ak x.keys.length nk)/\W8.cell? ⟨wr.heap.size,3,none⟩=some (.slice ad x.kids.length tV)/\W8.cell? ⟨wr.heap.size,4,none⟩=some (.slice ab x.buf.length oQ):=by simp [World.cell?,k8]
    obtain⟨L,hL⟩:=bC (x.own)
    rw [hL]at Ab
    obtain⟨la,lc,Zd⟩:∃la lc,(x.leaf=true->la=ae/\lc=ne/\L=x.aF)/\(x.leaf=false->la=ab/\lc=oQ/\L=x.buf):=by
     cases hl:x.leaf with
     |true=>exact⟨ae,ne,fun _=>⟨rfl,rfl,by rw [<-hL];simp [Nd.own,hl]⟩,fun h=>by cases h⟩
     |false=>exact⟨ab,oQ,fun h=>(by cases h),fun _=>⟨rfl,rfl,by rw [<-hL];simp [Nd.own,hl]⟩⟩
    have HLV:=hdd Zd
    have OY:=hdd (show ft w (.slice la L.length lc) L by
     cases hl:x.leaf with
     |true=>obtain⟨rfl,rfl,rfl⟩:=Zd.1 hl;exact HE.out
     |false=>obtain⟨rfl,rfl,rfl⟩:=Zd.2 hl;exact HB.out)
    clear hL Zd
    go_upto_if 39 with (fail)
    go_cut [10] (fun v wx=>v = .slice la L.length lc/\W8=wx)
    case first=>
     cases hl:x.leaf with
     |true=>
      have h1:=HLV.out.1 hl
      rw [hl]at x0
      obtain⟨g1,g2,g3⟩:=h1
      have HG3:=hdd g3
      subst g1 g2
      clear g3 hl
      go_wp2
      go_meet
      exact⟨by rw [HG3.out],rfl⟩
     |false=>
      have h1:=HLV.out.2 hl
      rw [hl]at x0
      obtain⟨g1,g2,g3⟩:=h1
      have HG3:=hdd g3
      subst g1 g2
      clear g3 hl
      go_wp2
      go_meet
      exact⟨by rw [HG3.out],rfl⟩
    case rest=>
     obtain⟨rfl,rfl⟩:=hcut
     have HA:=hdd (Cz (x:=key) (w:=W8) (OY.out.below UT.out.below aI) Ab.out.1 (fun e he=>by have:=Ab.out.2.2.1 e he;omega))
     obtain⟨hs,GI⟩:=bC (rp L key)
     obtain⟨ps,hps⟩:=bC (ic L key)
     rw [GI,hps]at HA
     have HHS:=hdd GI
     have HPS:=hdd hps
     obtain⟨TL,hTL⟩:=bR ((if x.leaf=true then []else oN t key gk (x.kids.getD (aZ x.keys key) 0)))
     have N8:=hdd (show oH t key r (L.filter (fun e=>decide (e.key=key))++TL) by
      have:=H2.out;rw [Ab.out.2.2.2.1]at this;rw [hTL];exact this)
     have HTL:=hdd hTL
     clear GI hps hTL x0 x1 x2 x3 x4 H2
     go_upto_if 48 with ((go_at_call 117;(with_reducible refine HA.out.mono ?_);rintro e w9 ⟨rfl,pR⟩))
     have k9:w9.heap[wr.heap.size]?=_:=(pR.block _ (eP.1 k8).1).trans k8
     have Ih:=hdd (UT.out.later pR aI)
     have JY:ob<w9.heap.size:=(eP.1 Ih.out.out).1
     have aaj:wr.heap.size<w9.heap.size:=(eP.1 k9).1
     have M0:w.heap.size<=w9.heap.size:=Ih.out.below.size
     have afZ:ob<wr.heap.size:=(eP.1 K6.out.out).1
     clear k8 kQ pR HA
     go_cut [] (fun wx=>∃r',Hid (vt w ob (.slice (some ⟨nb,gL,none⟩) t.nodes.length cap) t.root wx r')/\wx.heap[wr.heap.size]?=some (.cells #[.bool x.leaf, .slice ae x.aF.length ne, .slice ak x.keys.length nk, .slice ad x.kids.length tV, .slice ab x.buf.length oQ] 125)/\Hid (oH t key r' TL))
     case first=>
      cases hs with
      |false=>
       go_wp2
       go_meet
       exact⟨r,Ih,k9,hdd (Eh HHS.out N8.out)⟩
      |true=>
       obtain⟨i,hi,hp,-,hfl⟩:=Bn Ab.out.1 HHS.out
       obtain rfl:i=ps:=hp.symm.trans HPS.out
       have afU:i<L.length:=hi
       obtain⟨_,_,hv,-,-,-,-,h5⟩:=OY.out
       injection hv with g1 _ g3
       subst g1 g3
       obtain⟨eb,aH,lQ,r8,nD⟩:=h5 af
       subst lQ
       obtain⟨-,y1,y2,y3,y4,y5,y6⟩:=bT Ih.out.below r8 nD hi
       have E3:=hdd (Eg (hi:=hi) (Ab.out.2.1 _ (gj hi)).2 hfl N8.out)
       obtain⟨y,hy⟩:=bC (L[i].is)
       rw [hy]at y1 y2 y3 y4 y5 y6 E3
       obtain⟨J,E,GR⟩:∃J E,bL r y=(J,E):=⟨_,_,rfl⟩
       have CI:=hdd GR
       have HM:=hdd fun w'=>(by have:=jb r y w';rw [GR]at this;exact this :
        Calls Tryz.prog 15 #[.agg #[.int .i64 r.c, .int .i64 r.s, .int .i64 r.mi, .int .i64 r.ma, .int .i64 r.t, .int .i64 r.l], .agg #[.int .i64 y.c, .int .i64 y.s, .int .i64 y.mi, .int .i64 y.ma, .int .i64 y.t, .int .i64 y.l]] w' fun e' w5=>e' = .returned (.tuple #[.agg #[.int .i64 J.c, .int .i64 J.s, .int .i64 J.mi, .int .i64 J.ma, .int .i64 J.t, .int .i64 J.l], .int .i64 E])/\ah w' w5)
       obtain⟨o0,o1,o2,o3,o4,o5,-⟩:=cI Ih.out.out
       have GG:=fun w'=>dC (ab:=eb) (bp:=aH) (n:=L.length) (cap:=lc) (show (i:Int)=((i:Nat):Int) by rfl) hi w'
       have HS:=hdd fun w' (hb:ah w9 w')=>(by
        have gc:∀b o,b<w9.heap.size->w'.cell? ⟨b,o,none⟩=w9.cell? ⟨b,o,none⟩:=fun b o h=>hb.cell (p:=⟨b,o,none⟩) h
        have GK:eb<w9.heap.size:=af
        rw [gc _ _ JY,gc _ _ JY,gc _ _ JY,gc _ _ JY,gc _ _ JY,gc _ _ JY,gc _ _ GK,gc _ _ GK,gc _ _ GK,gc _ _ GK,gc _ _ GK,gc _ _ GK]
        exact⟨o0,o1,o2,o3,o4,o5,y1,y2,y3,y4,y5,y6⟩:w'.cell? ⟨ob,0,none⟩=some (.int .i64 r.c)/\w'.cell? ⟨ob,1,none⟩=some (.int .i64 r.s)/\w'.cell? ⟨ob,2,none⟩=some (.int .i64 r.mi)/\w'.cell? ⟨ob,3,none⟩=some (.int .i64 r.ma)/\w'.cell? ⟨ob,4,none⟩=some (.int .i64 r.t)/\w'.cell? ⟨ob,5,none⟩=some (.int .i64 r.l)/\w'.cell? ⟨eb,aH+i*7+1,none⟩=some (.int .i64 y.c)/\w'.cell? ⟨eb,aH+i*7+2,none⟩=some (.int .i64 y.s)/\w'.cell? ⟨eb,aH+i*7+3,none⟩=some (.int .i64 y.mi)/\w'.cell? ⟨eb,aH+i*7+4,none⟩=some (.int .i64 y.ma)/\w'.cell? ⟨eb,aH+i*7+5,none⟩=some (.int .i64 y.t)/\w'.cell? ⟨eb,aH+i*7+6,none⟩=some (.int .i64 y.l))
       have b0:ah w9 w9.drew:=(aL _ _).drew
       have hs0:=HS.out _ b0
       clear nD h5 hfl hp GR hy y1 y2 y3 y4 y5 y6 o0 o1 o2 o3 o4 o5
       go_upto_region 14 with (fail)
       go_cut [13,14] (fun p c wx=>∃g:Nat,p = .pointer (some ⟨g,0,none⟩)/\c = .int .i64 E/\wx.heap[g]?=some (.cells #[.int .i64 J.c, .int .i64 J.s, .int .i64 J.mi, .int .i64 J.ma, .int .i64 J.t, .int .i64 J.l] 39)/\w9.heap.size<=g/\ah w9 wx)
       case first=>
        go_region_held3 (fun w'=>w'.cell? ⟨ob,0,none⟩=some (.int .i64 r.c)/\w'.cell? ⟨ob,1,none⟩=some (.int .i64 r.s)/\w'.cell? ⟨ob,2,none⟩=some (.int .i64 r.mi)/\w'.cell? ⟨ob,3,none⟩=some (.int .i64 r.ma)/\w'.cell? ⟨ob,4,none⟩=some (.int .i64 r.t)/\w'.cell? ⟨ob,5,none⟩=some (.int .i64 r.l)/\w'.cell? ⟨eb,aH+i*7+1,none⟩=some (.int .i64 y.c)/\w'.cell? ⟨eb,aH+i*7+2,none⟩=some (.int .i64 y.s)/\w'.cell? ⟨eb,aH+i*7+3,none⟩=some (.int .i64 y.mi)/\w'.cell? ⟨eb,aH+i*7+4,none⟩=some (.int .i64 y.ma)/\w'.cell? ⟨eb,aH+i*7+5,none⟩=some (.int .i64 y.t)/\w'.cell? ⟨eb,aH+i*7+6,none⟩=some (.int .i64 y.l))
         (first|with_reducible exact hs0|(with_reducible refine HS.out _ ?_;exact ag))
         (first
          |(go_at_call 15;(with_reducible refine(HM.out _).mono ?_);rintro e' w5 ⟨rfl,BE⟩;guard_hyp BE:Below w9.drew.heap.size w9.drew w5;have cz:ah w9 w5:=Below.trans' (show ah w9 _ from ag) BE (by first|omega|(simp;done)|(simp;omega)|(simp [aN];done)|(simp [aN];omega));have Mx:=cz.size)
          |(go_at_call 15;(with_reducible refine(HM.out _).mono ?_);rintro e' w5 ⟨rfl,BE⟩;obtain⟨q5,z0,z1,z2,z3,z4,z5,zf⟩:=vH BE;have cz:ah w9 w5:=Below.trans' (show ah w9 _ from ag) BE (by first|omega|(simp;done)|(simp;omega)|(simp [aN];done)|(simp [aN];omega));have Mx:=cz.size))
        all_goals
         go_wp2_with fail
         go_meet
         refine⟨_,rfl,rfl,?_,?_,?_⟩
         ·first
          |with_reducible exact aq _ _ rfl
          |with_reducible exact jR q5
         ·(first|omega|(simp;done)|(simp;omega))
         ·exact ag
       case rest=>
        obtain⟨g,rfl,rfl,hg,OD,hbc⟩:=hcut
        have QJ:=hdd (Ih.out.later hbc aI)
        have kc:wc.heap[wr.heap.size]?=_:=(hbc.block _ aaj).trans k9
        obtain⟨j0,j1,j2,j3,j4,j5,-⟩:=cI hg
        obtain⟨o0,o1,o2,o3,o4,o5,of⟩:=cI QJ.out.out
        obtain⟨z0,z1,z2,z3,z4,z5,zf⟩:=cI QJ.out.res
        have P9:=QJ.out.below
        clear hs0 b0 k9
        by_cases hcc:r.c+y.c<=1073741824
        ·obtain⟨t1,t2⟩:=E3.out.1 hcc
         obtain⟨rfl,rfl⟩:=Prod.mk.inj (CI.out.symm.trans t1)
         have rI:=hdd t2
         generalize r.join y=J at *
         clear t1 t2 hcc E3 CI HM
         go_wp2
         go_meet
         exact⟨J,hdd (QJ.out.set J),by rw [tM af];exact kc,rI⟩
        ·obtain⟨t1,t2⟩:=E3.out.2 hcc
         obtain⟨rfl,rfl⟩:=Prod.mk.inj (CI.out.symm.trans t1)
         have rI:=hdd (HGS.out.trans t2)
         clear t1 t2 hcc E3 CI HM
         go_wp2
         rw [rI.out]
         exact bodyPost_ret (v:= .tuple #[.agg #[.int .i64 0, .int .i64 0, .int .i64 0, .int .i64 0, .int .i64 0, .int .i64 0], .int .i64 1]) (by simp [results,Tryz.results108,go_sem, *]) rfl ⟨rfl,ag⟩
     case rest=>
      obtain⟨r',QI,kn,RH⟩:=hcut
      clear Ih k9 UT K6 N8
      have Mv:wr.heap.size<wc.heap.size:=(eP.1 kn).1
      obtain⟨x0,x1,x2,x3,x4⟩:wc.cell? ⟨wr.heap.size,0,none⟩=some (.bool x.leaf)/\wc.cell? ⟨wr.heap.size,1,none⟩=some (.slice ae x.aF.length ne)/\wc.cell? ⟨wr.heap.size,2,none⟩=some (.slice ak x.keys.length nk)/\wc.cell? ⟨wr.heap.size,3,none⟩=some (.slice ad x.kids.length tV)/\wc.cell? ⟨wr.heap.size,4,none⟩=some (.slice ab x.buf.length oQ):=by simp [World.cell?,kn]
      have P9:=QI.out.below
      cases hl:x.leaf with
      |true=>
       rw [hl]at x0
       have HR:=hdd (HGS.out.trans (GX (by have:=RH.out;rw [HTL.out,ar hl]at this;exact this)))
       obtain⟨o0,o1,o2,o3,o4,o5,of⟩:=cI QI.out.out
       obtain⟨z0,z1,z2,z3,z4,z5,zf⟩:=cI QI.out.res
       clear hl kn
       go_wp2
       rw [HR.out]
       exact bodyPost_ret (v:= .tuple #[.agg #[.int .i64 r'.c, .int .i64 r'.s, .int .i64 r'.mi, .int .i64 r'.ma, .int .i64 r'.t, .int .i64 r'.l], .int .i64 0]) (by simp [results,Tryz.results108,go_sem, *]) rfl ⟨rfl,ag⟩
      |false=>
       obtain⟨hks,hkl,f',a',b',l',h',Fa,Gu,ha',hb'⟩:=Ab.out.2.2.2.2 hl
       have N7:=hdd (show oH t key r' (oN t key gk (x.kids.getD (aZ x.keys key) 0)) by have:=RH.out;rw [HTL.out,ai (by simp [hl])]at this;exact this)
       rw [hl]at x0
       obtain⟨m,hm⟩:=bC (aZ x.keys key)
       rw [hm]at hkl Gu N7
       obtain⟨K,hK⟩:∃K,x.kids[m]?=some K:=⟨x.kids[m],by simp [hkl]⟩
       have hKd:x.kids.getD m 0=K:=by rw [List.getD_eq_getElem?_getD,hK];rfl
       rw [hKd]at Gu N7
       have HVN:=hdd (aO Gu (aO ha' hb'))
       have HGK:=hdd Fa
       have HKD:=hdd fun w' (hb:ah w w')=>(by have:=xY (lf:=false) (ev:= .slice ae x.aF.length ne) (dv:= .slice ad x.kids.length tV) (bv:= .slice ab x.buf.length oQ) (x:=key) (BI.out.below hb aI) hks;rw [hm]at this;exact this :
        Calls Tryz.prog 118 #[.agg #[.bool false, .slice ae x.aF.length ne, .slice ak x.keys.length nk, .slice ad x.kids.length tV, .slice ab x.buf.length oQ], .int .i64 key] w' fun r w''=>r = .returned (.int .i64 m)/\ah w' w'')
       obtain⟨kb,Ar,V8,ke,hkb,hkc⟩:=gy.get (HDD.out.below P9 aI) hK
       injection ke with V7 _ V4
       subst V7 V4
       have HS:=hdd fun w' (hb:ah wc w')=>(by
        have gc:∀b o,b<wc.heap.size->w'.cell? ⟨b,o,none⟩=wc.cell? ⟨b,o,none⟩:=fun b o h=>hb.cell (p:=⟨b,o,none⟩) h
        rw [gc _ _ Mv,gc _ _ Mv,gc _ _ Mv,gc _ _ Mv,gc _ _ Mv,gc _ _ hkb]
        exact⟨x0,x1,x2,x3,x4,hkc⟩:w'.cell? ⟨wr.heap.size,0,none⟩=some (.bool false)/\w'.cell? ⟨wr.heap.size,1,none⟩=some (.slice ae x.aF.length ne)/\w'.cell? ⟨wr.heap.size,2,none⟩=some (.slice ak x.keys.length nk)/\w'.cell? ⟨wr.heap.size,3,none⟩=some (.slice (some ⟨kb,Ar,none⟩) x.kids.length tV)/\w'.cell? ⟨wr.heap.size,4,none⟩=some (.slice ab x.buf.length oQ)/\w'.cell? ⟨kb,Ar+m,none⟩=some (.int .i64 K))
       have agm:=fun w'=>lO (ab:=kb) (bp:=Ar) (n:=x.kids.length) (cap:=tV) (show (m:Int)=((m:Nat):Int) by rfl) hkl w'
       have b0:ah wc wc.drew:=(aL _ _).drew
       have hs0:=HS.out _ b0
       clear hl hks hm hK hKd Gu ha' hb' Fa x1 x2 x3 x4 hkc kn
       go_wp2_with fail
       go_region_held3 (fun w'=>w'.cell? ⟨wr.heap.size,0,none⟩=some (.bool false)/\w'.cell? ⟨wr.heap.size,1,none⟩=some (.slice ae x.aF.length ne)/\w'.cell? ⟨wr.heap.size,2,none⟩=some (.slice ak x.keys.length nk)/\w'.cell? ⟨wr.heap.size,3,none⟩=some (.slice (some ⟨kb,Ar,none⟩) x.kids.length tV)/\w'.cell? ⟨wr.heap.size,4,none⟩=some (.slice ab x.buf.length oQ)/\w'.cell? ⟨kb,Ar+m,none⟩=some (.int .i64 K))
        (first|with_reducible exact hs0|(with_reducible refine HS.out _ ?_;exact ag))
        (first
         |(go_at_call 118;(with_reducible refine(HKD.out _ ?_).mono ?_);(exact Below.trans' P9 b0 P9.size);rintro e' w5 ⟨rfl,BE⟩;have cz:ah wc w5:=Below.trans' b0 BE aI))
       all_goals
        go_wp2_with fail
        go_roundg f'
        case measure=>have:=HGK.out;omega
        case rel=>exact⟨f',K,a',b',l',h',r',by have:=HGK.out;omega,rfl,rfl,HVN,(by have:=N7.out;rw [HGK.out]at this;exact hdd this),hdd (QI.out.later cz aI)⟩
  ·have HR:=hdd (show AB t key=(av.zero,2) by rw [yl,ar hf,ai hr])
   rw [hf]at iC
   obtain⟨z0,z1,z2,z3,z4,z5,zf⟩:=cI k1
   have HZ:=hdd fun w' (hb:ah W0 w')=>(hb.block (w.heap.size+1) af).trans k1
   have HB:=hdd fun w' (hb:ah W0 w')=>(Below.trans' hb0 hb hb0.size:ah w w')
   clear z0 z1 z2 z3 z4 z5 zf hf k0 k1
   by_cases Vb:key<0
   ·clear hr
    go_wp2_with ((go_at_call 107;(with_reducible refine iC.out.mono ?_);rintro e w1 ⟨rfl,hb1⟩;have hz:=HZ.out _ hb1;obtain⟨z0,z1,z2,z3,z4,z5,zf⟩:=cI hz;have dh:=HB.out _ hb1))
    rw [HR.out]
    exact bodyPost_ret (v:= .tuple #[.agg #[.int .i64 0, .int .i64 0, .int .i64 0, .int .i64 0, .int .i64 0, .int .i64 0], .int .i64 2]) (by simp [results,Tryz.results108,go_sem, *]) rfl ⟨rfl,ag⟩
   ·have hr1:1099511627776<=key:=af
    clear hr
    go_wp2_with ((go_at_call 107;(with_reducible refine iC.out.mono ?_);rintro e w1 ⟨rfl,hb1⟩;have hz:=HZ.out _ hb1;obtain⟨z0,z1,z2,z3,z4,z5,zf⟩:=cI hz;have dh:=HB.out _ hb1))
    rw [HR.out]
    exact bodyPost_ret (v:= .tuple #[.agg #[.int .i64 0, .int .i64 0, .int .i64 0, .int .i64 0, .int .i64 0, .int .i64 0], .int .i64 2]) (by simp [results,Tryz.results108,go_sem, *]) rfl ⟨rfl,ag⟩
 ·have HR:=hdd (show AB t key=(av.zero,ax t) by rw [yl,ai hf])
  have d2:(ax t != 0)=true:=by simp [hf]
  obtain⟨F,hF⟩:=bC (ax t)
  rw [hF]at iC HR d2
  have HZ:=hdd fun w' (hb:ah W0 w')=>(hb.block (w.heap.size+1) af).trans k1
  have HB:=hdd fun w' (hb:ah W0 w')=>(Below.trans' hb0 hb hb0.size:ah w w')
  clear hf hF k0 k1
  go_wp2_with ((go_at_call 107;(with_reducible refine iC.out.mono ?_);rintro e w1 ⟨rfl,hb1⟩;have hz:=HZ.out _ hb1;obtain⟨z0,z1,z2,z3,z4,z5,zf⟩:=cI hz;have dh:=HB.out _ hb1))
  rw [HR.out]
  exact bodyPost_ret (v:= .tuple #[.agg #[.int .i64 0, .int .i64 0, .int .i64 0, .int .i64 0, .int .i64 0, .int .i64 0], .int .i64 F]) (by simp [results,Tryz.results108,go_sem, *]) rfl ⟨rfl,ag⟩
end
end Go.Proofs.YtmljjfhgciaceaaGreatDoor
