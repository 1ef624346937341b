/- Texts of mine that come as one: Got GetW. -/
import Derived.Test.YtmljjfhgciaceaaDoorSX
import Derived.Test.YtmljjfhgciaceaaDoorBK
import Derived.Test.YtmljjfhgciaceaaDoorHd
import Derived.Test.YtmljjfhgciaceaaDoorPA
import Derived.Test.YtmljjfhgciaceaaDoorIG
import Derived.Test.YtmljjfhgciaceaaDoorNC
import Derived.Test.YtmljjfhgciaceaaDoorKG
namespace Go.Proofs.YtmljjfhgciaceaaDoor
open Go.RowKit
noncomputable def AZ (t:Tr) (key:Int):aw×Int:=if ax t=0 then(if 0<=key/\key<=1099511627775 then TR t key else(aw.zero,2)) else(aw.zero,ax t)
theorem cF {w:World} {b:Nat} {a0 a1 a2 a3 a4 a5:Value} {T:TypeId} (h:w.heap[b]?=some (.cells #[a0,a1,a2,a3,a4,a5] T)) :
  w.cell? ⟨b,0,none⟩=some a0/\w.cell? ⟨b,1,none⟩=some a1/\w.cell? ⟨b,2,none⟩=some a2/\w.cell? ⟨b,3,none⟩=some a3/\w.cell? ⟨b,4,none⟩=some a4/\w.cell? ⟨b,5,none⟩=some a5/\∀o,w.frozen? ⟨b,o,none⟩=false:=by
 simp [World.cell?,World.frozen?,h]
section
set_option maxRecDepth 100000
set_option maxHeartbeats 1000000
variable {ob:Nat} {r:aw} {tv:Value} {w wr:World}
structure vt (w:World) (ob:Nat) (tv:Value) (root:Int) (wr:World) (r:aw):Prop where
 below:ah w wr
 box:wr.heap[w.heap.size]?=some (.cells #[tv, .int .i64 root] 32)
 res:wr.heap[w.heap.size+1]?=some (.cells #[.int .i64 0, .int .i64 0, .int .i64 0, .int .i64 0, .int .i64 0, .int .i64 0] 42)
 lt:w.heap.size+1<ob
 out:wr.heap[ob]?=some (.cells #[.int .i64 r.c, .int .i64 r.s, .int .i64 r.mi, .int .i64 r.ma, .int .i64 r.t, .int .i64 r.l] 42)
theorem vt.later {root:Int} {wr':World} (h:vt w ob tv root wr r) {C:Nat} (hb:Below C wr wr') (hC:wr.heap.size<=C):vt w ob tv root wr' r:=by
 have l0:=(eI.1 h.box).1
 have l1:=(eI.1 h.res).1
 have l2:=(eI.1 h.out).1
 exact⟨Below.trans' h.below (hb.mono hC) h.below.size,(hb.block _ af).trans h.box,(hb.block _ af).trans h.res,h.lt,(hb.block _ af).trans h.out⟩
theorem yE (t:Tr) (key:Int):AZ t key=if ax t=0 then(if 0<=key/\key<=1099511627775 then Ha t key else(aw.zero,2)) else(aw.zero,ax t):=by
 unfold AZ
 by_cases hf:ax t=0
 ·rw [ar hf,ar hf]
  by_cases hr:0<=key/\key<=1099511627775
  ·rw [ar hr,ar hr,Qi (cS hf).2,I4 (cS hf).2 hr.1 af]
  ·rw [ai hr,ai hr]
 ·rw [ai hf,ai hf]
theorem tO {B b:Nat} {v0 v1 v2 v3 v4 v5:Value} (h:b≠B) :
  ((((((w.setCell ⟨B,0,none⟩ v0).setCell ⟨B,1,none⟩ v1).setCell ⟨B,2,none⟩ v2).setCell ⟨B,3,none⟩ v3).setCell ⟨B,4,none⟩ v4).setCell ⟨B,5,none⟩ v5).heap[b]?=w.heap[b]?:=by
 have g:∀(w:World) (o:Nat) (v:Value),(w.setCell ⟨B,o,none⟩ v).heap[b]?=w.heap[b]?:=fun w o v=>qd w ⟨B,o,none⟩ v b h
 rw [g,g,g,g,g,g]
theorem vt.set {root:Int} (h:vt w ob tv root wr r) (q:aw) :
  vt w ob tv root ((((((wr.setCell ⟨ob,0,none⟩ (.int .i64 q.c)).setCell ⟨ob,1,none⟩ (.int .i64 q.s)).setCell ⟨ob,2,none⟩ (.int .i64 q.mi)).setCell ⟨ob,3,none⟩ (.int .i64 q.ma)).setCell ⟨ob,4,none⟩ (.int .i64 q.t)).setCell ⟨ob,5,none⟩ (.int .i64 q.l)) q:=by
 have hl:=h.lt
 have hb:=h.below
 exact⟨ag,by rw [tO af];exact h.box,by rw [tO af];exact h.res,hl,jT h.out⟩
theorem CG {v:Value} {t:Tr} {key:Int} (h:bM w v t) :
  Calls Tryd.prog 74 #[v, .int .i64 key] w fun e w'=>e = .returned (.tuple #[(AZ t key).1.v, .int .i64 (AZ t key).2])/\ah w w':=by
 obtain⟨nv,rfl,hn⟩:=h
 obtain⟨⟨ao,cap,rfl⟩,hlen⟩:=hn.len
 obtain⟨W0,hW0⟩:=bP ((w.alloc (.cells #[.slice ao t.nodes.length cap, .int .i64 t.root] 32)).alloc (.cells #[.int .i64 0, .int .i64 0, .int .i64 0, .int .i64 0, .int .i64 0, .int .i64 0] 42))
 have hb0:ah w W0:=by rw [hW0];exact ag
 have hz0:W0.heap.size=w.heap.size+2:=by rw [hW0];simp
 have k0:W0.heap[w.heap.size]?=some (.cells #[.slice ao t.nodes.length cap, .int .i64 t.root] 32):=by
  rw [hW0,kW _ _ _ bj];exact aj _ _ rfl
 have k1:W0.heap[w.heap.size+1]?=some (.cells #[.int .i64 0, .int .i64 0, .int .i64 0, .int .i64 0, .int .i64 0, .int .i64 0] 42):=by
  rw [hW0];exact aj _ _ bj
 have hn0:=hn.below hb0 aH
 have iq:=hdd (jt (t:=t) (w:=W0) (v:= .agg #[.slice ao t.nodes.length cap, .int .i64 t.root]) ⟨_,rfl,hn0⟩)
 obtain⟨q0,q1⟩:W0.cell? ⟨w.heap.size,0,none⟩=some (.slice ao t.nodes.length cap)/\W0.cell? ⟨w.heap.size,1,none⟩=some (.int .i64 t.root):=by simp [World.cell?,k0]
 go_enter Tryd.func74,Tryd.ntmps74
 go_upto_region 1 with (fail)
 rw [<-hW0]
 clear hW0
 by_cases hf:ax t=0
 ·by_cases hr:0<=key/\key<=1099511627775
  ·have HGS:=hdd (show AZ t key=Ha t key by rw [yE,ar hf,ar hr])
   rw [hf]at iq
   have hr1:key<1099511627776:=af
   have U2:0<=key:=hr.1
   go_upto_region 6 with ((go_at_call 73;(with_reducible refine iq.out.mono ?_);rintro e w1 ⟨rfl,hb1⟩))
   have k10:w1.heap[w.heap.size]?=_:=(hb1.block _ af).trans k0
   have k11:w1.heap[w.heap.size+1]?=_:=(hb1.block _ af).trans k1
   have Et:ah w w1:=Below.trans' hb0 hb1 hb0.size
   have hs1:w.heap.size+2<=w1.heap.size:=by have:=hb1.size;omega
   obtain⟨Fw,q1'⟩:w1.cell? ⟨w.heap.size,0,none⟩=some (.slice ao t.nodes.length cap)/\w1.cell? ⟨w.heap.size,1,none⟩=some (.int .i64 t.root):=by simp [World.cell?,k10]
   clear q0 q1 k0 k1 hb1 iq hn0
   have n1:w.heap.size<w1.heap.size:=af
   obtain⟨ob,oP⟩:=bP (w1.heap.size)
   obtain⟨W2,hW2⟩:=bP (w1.alloc (.cells #[.int .i64 0, .int .i64 0, .int .i64 0, .int .i64 0, .int .i64 0, .int .i64 0] 42))
   have hst:vt w ob (.slice ao t.nodes.length cap) t.root W2 aw.zero:=by
    rw [hW2,oP]
    exact⟨ag,by rw [kW _ _ _ af];exact k10,by rw [kW _ _ _ af];exact k11,af,aj _ _ rfl⟩
   have HST:=hdd hst
   go_upto_region 8 with (fail)
   rw [<-oP,<-hW2]
   obtain⟨lv,hv0,e0,-,-⟩:=(cS hf).2
   have HV:=hdd e0
   have HF:=hdd hf
   clear hst hW2 k10 k11 Fw q1' n1 hs1 Et oP e0 hf
   have HN:=hdd hn
   go_loopg [8] 11 (fun g nv wr=>∃(f:Nat) (n a b:Int) (l:List Int) (h:Nat) (r:aw),f<=11/\g=f+0/\nv = .int .i64 n/\Hid (mC t (f+1) n a b=some (l,h)/\a<=key/\key<b)/\Hid (oN t key r (oX t key (f+1) n))/\Hid (vt w ob (.slice ao t.nodes.length cap) t.root wr r))
   case atStart=>exact⟨11,t.root,0,1099511627776,lv,hv0,aw.zero,km _,rfl,rfl,hdd ⟨HV.out,U2,hr1⟩,hdd CH,HST⟩
   case round=>
    obtain⟨f,n,a,b,l,h,r,hf,rfl,rfl,Zf,Ie,Le⟩:=hrel
    obtain⟨x,hx⟩:=yM Zf.out.1
    obtain⟨hn0,GU,xE⟩:=uY hx
    obtain⟨j,hj⟩:∃j:Nat,n=j:=⟨n.toNat,af⟩
    subst hj
    rw [Int.toNat_natCast]at GU xE
    obtain⟨nb,gL,c,ev,kv,dv,bv,e0,hnb,hE,hK,hD,hB,c0,c1,c2,c3,c4⟩:=pP HN.out Le.out.below xE
    injection e0 with e0 _ e2
    subst e0 e2
    obtain⟨ae,ne,rfl⟩:=hE.isSlice
    obtain⟨ak,nk,rfl⟩:=hK.isSlice
    obtain⟨ad,tU,rfl⟩:=hD.isSlice
    obtain⟨ab,o8,rfl⟩:=hB.isSlice
    have Av:=hdd (Nj HF.out Zf.out.1 hx Zf.out.2.1 Zf.out.2.2)
    obtain⟨q0,q1⟩:wr.cell? ⟨w.heap.size,0,none⟩=some (.slice (some ⟨nb,gL,none⟩) t.nodes.length cap)/\wr.cell? ⟨w.heap.size,1,none⟩=some (.int .i64 t.root):=by simp [World.cell?,Le.out.box]
    have hbz:=Le.out.below.size
    have iu:=fun w'=>dR (ab:=nb) (aV:=gL) (n:=t.nodes.length) (cap:=cap) (show (j:Int)=((j:Nat):Int) by rfl) GU w'
    have n0:nb<wr.heap.size:=af
    have HE:=hdd hE
    have HB:=hdd hB
    have Cb:=hdd hK
    have HDD:=hdd hD
    clear hE hB hK hD hx hn0
    obtain⟨W8,mM⟩:=bP (wr.alloc (.cells #[.bool x.leaf, .slice ae x.aF.length ne, .slice ak x.keys.length nk, .slice ad x.kids.length tU, .slice ab x.buf.length o8] 119))
    have kS:ah wr W8:=by rw [mM];exact ag
    have k8:W8.heap[wr.heap.size]?=some (.cells #[.bool x.leaf, .slice ae x.aF.length ne, .slice ak x.keys.length nk, .slice ad x.kids.length tU, .slice ab x.buf.length o8] 119):=by rw [mM];exact aj _ _ rfl
    have UI:=hdd (Le.out.later kS aH)
    go_upto_region 9 with (fail)
    rw [<-mM]
    clear mM q0 q1 c0 c1 c2 c3 c4 iu
    obtain⟨x0,x1,x2,x3,x4⟩:W8.cell? ⟨wr.heap.size,0,none⟩=some (.bool x.leaf)/\W8.cell? ⟨wr.heap.size,1,none⟩=some (.slice ae x.aF.length ne)/\W8.cell? ⟨wr.heap.size,2,none⟩=some (.slice ak x.keys.length nk)/\W8.cell? ⟨wr.heap.size,3,none⟩=some (.slice ad x.kids.length tU)/\W8.cell? ⟨wr.heap.size,4,none⟩=some (.slice ab x.buf.length o8):=by simp [World.cell?,k8]
    obtain⟨L,hL⟩:=bt (x.own)
    rw [hL]at Av
    obtain⟨la,lc,Y4⟩:∃la lc,(x.leaf=true->la=ae/\lc=ne/\L=x.aF)/\(x.leaf=false->la=ab/\lc=o8/\L=x.buf):=by
     cases hl:x.leaf with
     |true=>exact⟨ae,ne,fun _=>⟨rfl,rfl,by rw [<-hL];simp [Nd.own,hl]⟩,fun h=>by cases h⟩
     |false=>exact⟨ab,o8,fun h=>(by cases h),fun _=>⟨rfl,rfl,by rw [<-hL];simp [Nd.own,hl]⟩⟩
    have kp:=hdd Y4
    have HLA:=hdd (show fu w (.slice la L.length lc) L by
     cases hl:x.leaf with
     |true=>obtain⟨rfl,rfl,rfl⟩:=Y4.1 hl;exact HE.out
     |false=>obtain⟨rfl,rfl,rfl⟩:=Y4.2 hl;exact HB.out)
    clear hL Y4
    go_upto_if 39 with (fail)
    go_cut [10] (fun v wx=>v = .slice la L.length lc/\W8=wx)
    case first=>
     cases hl:x.leaf with
     |true=>
      have h1:=kp.out.1 hl
      rw [hl]at x0
      obtain⟨g1,g2,g3⟩:=h1
      have HG3:=hdd g3
      subst g1 g2
      clear g3 hl
      go_wp2
      go_meet
      exact⟨by rw [HG3.out],rfl⟩
     |false=>
      have h1:=kp.out.2 hl
      rw [hl]at x0
      obtain⟨g1,g2,g3⟩:=h1
      have HG3:=hdd g3
      subst g1 g2
      clear g3 hl
      go_wp2
      go_meet
      exact⟨by rw [HG3.out],rfl⟩
    case rest=>
     obtain⟨rfl,rfl⟩:=hcut
     have HA:=hdd (CS (x:=key) (w:=W8) (HLA.out.below UI.out.below aH) Av.out.1 (fun e he=>by have:=Av.out.2.2.1 e he;omega))
     obtain⟨hs,G0⟩:=bt (rq L key)
     obtain⟨ps,hps⟩:=bt (ia L key)
     rw [G0,hps]at HA
     have HHS:=hdd G0
     have HPS:=hdd hps
     obtain⟨TL,hTL⟩:=bP ((if x.leaf=true then []else oX t key gk (x.kids.getD (aU x.keys key) 0)))
     have N6:=hdd (show oN t key r (L.filter (fun e=>decide (e.key=key))++TL) by
      have:=Ie.out;rw [Av.out.2.2.2.1]at this;rw [hTL];exact this)
     have HTL:=hdd hTL
     clear G0 hps hTL x0 x1 x2 x3 x4 Ie
     go_upto_if 48 with ((go_at_call 94;(with_reducible refine HA.out.mono ?_);rintro e w9 ⟨rfl,pS⟩))
     have k9:w9.heap[wr.heap.size]?=_:=(pS.block _ (eI.1 k8).1).trans k8
     have Ir:=hdd (UI.out.later pS aH)
     have J5:ob<w9.heap.size:=(eI.1 Ir.out.out).1
     have aa6:wr.heap.size<w9.heap.size:=(eI.1 k9).1
     have M6:w.heap.size<=w9.heap.size:=Ir.out.below.size
     have afQ:ob<wr.heap.size:=(eI.1 Le.out.out).1
     clear k8 kS pS HA
     go_cut [] (fun wx=>∃r',Hid (vt w ob (.slice (some ⟨nb,gL,none⟩) t.nodes.length cap) t.root wx r')/\wx.heap[wr.heap.size]?=some (.cells #[.bool x.leaf, .slice ae x.aF.length ne, .slice ak x.keys.length nk, .slice ad x.kids.length tU, .slice ab x.buf.length o8] 119)/\Hid (oN t key r' TL))
     case first=>
      cases hs with
      |false=>
       go_wp2
       go_meet
       exact⟨r,Ir,k9,hdd (Ez HHS.out N6.out)⟩
      |true=>
       obtain⟨i,hi,hp,-,hfl⟩:=BL Av.out.1 HHS.out
       obtain rfl:i=ps:=hp.symm.trans HPS.out
       have afL:i<L.length:=hi
       obtain⟨_,_,hv,-,-,-,-,h5⟩:=HLA.out
       injection hv with g1 _ g3
       subst g1 g3
       obtain⟨eb,eB,lA,si,nE⟩:=h5 af
       subst lA
       obtain⟨-,y1,y2,y3,y4,y5,y6⟩:=bU Ir.out.below si nE hi
       have Fl:=hdd (Ey (hi:=hi) (Av.out.2.1 _ (fP hi)).2 hfl N6.out)
       obtain⟨y,hy⟩:=bt (L[i].is)
       rw [hy]at y1 y2 y3 y4 y5 y6 Fl
       obtain⟨J,E,G8⟩:∃J E,bH r y=(J,E):=⟨_,_,rfl⟩
       have C2:=hdd G8
       have HM:=hdd fun w'=>(by have:=jQ r y w';rw [G8]at this;exact this :
        Calls Tryd.prog 18 #[.agg #[.int .i64 r.c, .int .i64 r.s, .int .i64 r.mi, .int .i64 r.ma, .int .i64 r.t, .int .i64 r.l], .agg #[.int .i64 y.c, .int .i64 y.s, .int .i64 y.mi, .int .i64 y.ma, .int .i64 y.t, .int .i64 y.l]] w' fun e' w5=>e' = .returned (.tuple #[.agg #[.int .i64 J.c, .int .i64 J.s, .int .i64 J.mi, .int .i64 J.ma, .int .i64 J.t, .int .i64 J.l], .int .i64 E])/\ah w' w5)
       obtain⟨o0,o1,o2,o3,o4,o5,-⟩:=cF Ir.out.out
       have GY:=fun w'=>dw (ab:=eb) (aV:=eB) (n:=L.length) (cap:=lc) (show (i:Int)=((i:Nat):Int) by rfl) hi w'
       have HS:=hdd fun w' (hb:ah w9 w')=>(by
        have gc:∀b o,b<w9.heap.size->w'.cell? ⟨b,o,none⟩=w9.cell? ⟨b,o,none⟩:=fun b o h=>hb.cell (p:=⟨b,o,none⟩) h
        have G3:eb<w9.heap.size:=af
        rw [gc _ _ J5,gc _ _ J5,gc _ _ J5,gc _ _ J5,gc _ _ J5,gc _ _ J5,gc _ _ G3,gc _ _ G3,gc _ _ G3,gc _ _ G3,gc _ _ G3,gc _ _ G3]
        exact⟨o0,o1,o2,o3,o4,o5,y1,y2,y3,y4,y5,y6⟩:w'.cell? ⟨ob,0,none⟩=some (.int .i64 r.c)/\w'.cell? ⟨ob,1,none⟩=some (.int .i64 r.s)/\w'.cell? ⟨ob,2,none⟩=some (.int .i64 r.mi)/\w'.cell? ⟨ob,3,none⟩=some (.int .i64 r.ma)/\w'.cell? ⟨ob,4,none⟩=some (.int .i64 r.t)/\w'.cell? ⟨ob,5,none⟩=some (.int .i64 r.l)/\w'.cell? ⟨eb,eB+i*7+1,none⟩=some (.int .i64 y.c)/\w'.cell? ⟨eb,eB+i*7+2,none⟩=some (.int .i64 y.s)/\w'.cell? ⟨eb,eB+i*7+3,none⟩=some (.int .i64 y.mi)/\w'.cell? ⟨eb,eB+i*7+4,none⟩=some (.int .i64 y.ma)/\w'.cell? ⟨eb,eB+i*7+5,none⟩=some (.int .i64 y.t)/\w'.cell? ⟨eb,eB+i*7+6,none⟩=some (.int .i64 y.l))
       have b0:ah w9 w9.drew:=(aI _ _).drew
       have hs0:=HS.out _ b0
       clear nE h5 hfl hp G8 hy y1 y2 y3 y4 y5 y6 o0 o1 o2 o3 o4 o5
       go_upto_region 14 with (fail)
       go_cut [13,14] (fun p c wx=>∃g:Nat,p = .pointer (some ⟨g,0,none⟩)/\c = .int .i64 E/\wx.heap[g]?=some (.cells #[.int .i64 J.c, .int .i64 J.s, .int .i64 J.mi, .int .i64 J.ma, .int .i64 J.t, .int .i64 J.l] 42)/\w9.heap.size<=g/\ah w9 wx)
       case first=>
        go_region_held3 (fun w'=>w'.cell? ⟨ob,0,none⟩=some (.int .i64 r.c)/\w'.cell? ⟨ob,1,none⟩=some (.int .i64 r.s)/\w'.cell? ⟨ob,2,none⟩=some (.int .i64 r.mi)/\w'.cell? ⟨ob,3,none⟩=some (.int .i64 r.ma)/\w'.cell? ⟨ob,4,none⟩=some (.int .i64 r.t)/\w'.cell? ⟨ob,5,none⟩=some (.int .i64 r.l)/\w'.cell? ⟨eb,eB+i*7+1,none⟩=some (.int .i64 y.c)/\w'.cell? ⟨eb,eB+i*7+2,none⟩=some (.int .i64 y.s)/\w'.cell? ⟨eb,eB+i*7+3,none⟩=some (.int .i64 y.mi)/\w'.cell? ⟨eb,eB+i*7+4,none⟩=some (.int .i64 y.ma)/\w'.cell? ⟨eb,eB+i*7+5,none⟩=some (.int .i64 y.t)/\w'.cell? ⟨eb,eB+i*7+6,none⟩=some (.int .i64 y.l))
         (first|with_reducible exact hs0|(with_reducible refine HS.out _ ?_;exact ag))
         (first
          |(go_at_call 18;(with_reducible refine(HM.out _).mono ?_);rintro e' w5 ⟨rfl,BE⟩;guard_hyp BE:Below w9.drew.heap.size w9.drew w5;have cu:ah w9 w5:=Below.trans' (show ah w9 _ from ag) BE (by first|omega|(simp;done)|(simp;omega)|(simp [aJ];done)|(simp [aJ];omega));have MC:=cu.size)
          |(go_at_call 18;(with_reducible refine(HM.out _).mono ?_);rintro e' w5 ⟨rfl,BE⟩;obtain⟨q5,z0,z1,z2,z3,z4,z5,zf⟩:=vI BE;have cu:ah w9 w5:=Below.trans' (show ah w9 _ from ag) BE (by first|omega|(simp;done)|(simp;omega)|(simp [aJ];done)|(simp [aJ];omega));have MC:=cu.size))
        all_goals
         go_wp2_with fail
         go_meet
         refine⟨_,rfl,rfl,?_,?_,?_⟩
         ·first
          |with_reducible exact aj _ _ rfl
          |with_reducible exact jT q5
         ·(first|omega|(simp;done)|(simp;omega))
         ·exact ag
       case rest=>
        obtain⟨g,rfl,rfl,hg,Tb,hbc⟩:=hcut
        have QD:=hdd (Ir.out.later hbc aH)
        have kc:wc.heap[wr.heap.size]?=_:=(hbc.block _ aa6).trans k9
        obtain⟨j0,j1,j2,j3,j4,j5,-⟩:=cF hg
        obtain⟨o0,o1,o2,o3,o4,o5,of⟩:=cF QD.out.out
        obtain⟨z0,z1,z2,z3,z4,z5,zf⟩:=cF QD.out.res
        have P4:=QD.out.below
        clear hs0 b0 k9
        by_cases hcc:r.c+y.c<=1073741824
        ·obtain⟨t1,t2⟩:=Fl.out.1 hcc
         obtain⟨rfl,rfl⟩:=Prod.mk.inj (C2.out.symm.trans t1)
         have bf:=hdd t2
         generalize r.join y=J at *
         clear t1 t2 hcc Fl C2 HM
         go_wp2
         go_meet
         exact⟨J,hdd (QD.out.set J),by rw [tO af];exact kc,bf⟩
        ·obtain⟨t1,t2⟩:=Fl.out.2 hcc
         obtain⟨rfl,rfl⟩:=Prod.mk.inj (C2.out.symm.trans t1)
         have bf:=hdd (HGS.out.trans t2)
         clear t1 t2 hcc Fl C2 HM
         go_wp2
         rw [bf.out]
         exact bodyPost_ret (v:= .tuple #[.agg #[.int .i64 0, .int .i64 0, .int .i64 0, .int .i64 0, .int .i64 0, .int .i64 0], .int .i64 1]) (by simp [results,Tryd.results74,go_sem, *]) rfl ⟨rfl,ag⟩
     case rest=>
      obtain⟨r',QC,kn,Rz⟩:=hcut
      clear Ir k9 UI Le N6
      have MA:wr.heap.size<wc.heap.size:=(eI.1 kn).1
      obtain⟨x0,x1,x2,x3,x4⟩:wc.cell? ⟨wr.heap.size,0,none⟩=some (.bool x.leaf)/\wc.cell? ⟨wr.heap.size,1,none⟩=some (.slice ae x.aF.length ne)/\wc.cell? ⟨wr.heap.size,2,none⟩=some (.slice ak x.keys.length nk)/\wc.cell? ⟨wr.heap.size,3,none⟩=some (.slice ad x.kids.length tU)/\wc.cell? ⟨wr.heap.size,4,none⟩=some (.slice ab x.buf.length o8):=by simp [World.cell?,kn]
      have P4:=QC.out.below
      cases hl:x.leaf with
      |true=>
       rw [hl]at x0
       have HR:=hdd (HGS.out.trans (Hb (by have:=Rz.out;rw [HTL.out,ar hl]at this;exact this)))
       obtain⟨o0,o1,o2,o3,o4,o5,of⟩:=cF QC.out.out
       obtain⟨z0,z1,z2,z3,z4,z5,zf⟩:=cF QC.out.res
       clear hl kn
       go_wp2
       rw [HR.out]
       exact bodyPost_ret (v:= .tuple #[.agg #[.int .i64 r'.c, .int .i64 r'.s, .int .i64 r'.mi, .int .i64 r'.ma, .int .i64 r'.t, .int .i64 r'.l], .int .i64 0]) (by simp [results,Tryd.results74,go_sem, *]) rfl ⟨rfl,ag⟩
      |false=>
       obtain⟨hks,hkl,f',a',b',l',h',Fx,GJ,ha',hb'⟩:=Av.out.2.2.2.2 hl
       have N5:=hdd (show oN t key r' (oX t key gk (x.kids.getD (aU x.keys key) 0)) by have:=Rz.out;rw [HTL.out,ai (by simp [hl])]at this;exact this)
       rw [hl]at x0
       obtain⟨m,hm⟩:=bt (aU x.keys key)
       rw [hm]at hkl GJ N5
       obtain⟨K,hK⟩:∃K,x.kids[m]?=some K:=⟨x.kids[m],by simp [hkl]⟩
       have hKd:x.kids.getD m 0=K:=by rw [List.getD_eq_getElem?_getD,hK];rfl
       rw [hKd]at GJ N5
       have HVN:=hdd (aL GJ (aL ha' hb'))
       have HGK:=hdd Fx
       have HKD:=hdd fun w' (hb:ah w w')=>(by have:=yx (lf:=false) (ev:= .slice ae x.aF.length ne) (dv:= .slice ad x.kids.length tU) (bv:= .slice ab x.buf.length o8) (x:=key) (Cb.out.below hb aH) hks;rw [hm]at this;exact this :
        Calls Tryd.prog 95 #[.agg #[.bool false, .slice ae x.aF.length ne, .slice ak x.keys.length nk, .slice ad x.kids.length tU, .slice ab x.buf.length o8], .int .i64 key] w' fun r w''=>r = .returned (.int .i64 m)/\ah w' w'')
       obtain⟨kb,AO,VS,ke,hkb,hkc⟩:=gy.get (HDD.out.below P4 aH) hK
       injection ke with VR _ VP
       subst VR VP
       have HS:=hdd fun w' (hb:ah wc w')=>(by
        have gc:∀b o,b<wc.heap.size->w'.cell? ⟨b,o,none⟩=wc.cell? ⟨b,o,none⟩:=fun b o h=>hb.cell (p:=⟨b,o,none⟩) h
        rw [gc _ _ MA,gc _ _ MA,gc _ _ MA,gc _ _ MA,gc _ _ MA,gc _ _ hkb]
        exact⟨x0,x1,x2,x3,x4,hkc⟩:w'.cell? ⟨wr.heap.size,0,none⟩=some (.bool false)/\w'.cell? ⟨wr.heap.size,1,none⟩=some (.slice ae x.aF.length ne)/\w'.cell? ⟨wr.heap.size,2,none⟩=some (.slice ak x.keys.length nk)/\w'.cell? ⟨wr.heap.size,3,none⟩=some (.slice (some ⟨kb,AO,none⟩) x.kids.length tU)/\w'.cell? ⟨wr.heap.size,4,none⟩=some (.slice ab x.buf.length o8)/\w'.cell? ⟨kb,AO+m,none⟩=some (.int .i64 K))
       have agd:=fun w'=>lQ (ab:=kb) (aV:=AO) (n:=x.kids.length) (cap:=tU) (show (m:Int)=((m:Nat):Int) by rfl) hkl w'
       have b0:ah wc wc.drew:=(aI _ _).drew
       have hs0:=HS.out _ b0
       clear hl hks hm hK hKd GJ ha' hb' Fx x1 x2 x3 x4 hkc kn
       go_wp2_with fail
       go_region_held3 (fun w'=>w'.cell? ⟨wr.heap.size,0,none⟩=some (.bool false)/\w'.cell? ⟨wr.heap.size,1,none⟩=some (.slice ae x.aF.length ne)/\w'.cell? ⟨wr.heap.size,2,none⟩=some (.slice ak x.keys.length nk)/\w'.cell? ⟨wr.heap.size,3,none⟩=some (.slice (some ⟨kb,AO,none⟩) x.kids.length tU)/\w'.cell? ⟨wr.heap.size,4,none⟩=some (.slice ab x.buf.length o8)/\w'.cell? ⟨kb,AO+m,none⟩=some (.int .i64 K))
        (first|with_reducible exact hs0|(with_reducible refine HS.out _ ?_;exact ag))
        (first
         |(go_at_call 95;(with_reducible refine(HKD.out _ ?_).mono ?_);(exact Below.trans' P4 b0 P4.size);rintro e' w5 ⟨rfl,BE⟩;have cu:ah wc w5:=Below.trans' b0 BE aH))
       all_goals
        go_wp2_with fail
        go_roundg f'
        case measure=>have:=HGK.out;omega
        case rel=>exact⟨f',K,a',b',l',h',r',by have:=HGK.out;omega,rfl,rfl,HVN,(by have:=N5.out;rw [HGK.out]at this;exact hdd this),hdd (QC.out.later cu aH)⟩
  ·have HR:=hdd (show AZ t key=(aw.zero,2) by rw [yE,ar hf,ai hr])
   rw [hf]at iq
   obtain⟨z0,z1,z2,z3,z4,z5,zf⟩:=cF k1
   have HZ:=hdd fun w' (hb:ah W0 w')=>(hb.block (w.heap.size+1) af).trans k1
   have HB:=hdd fun w' (hb:ah W0 w')=>(Below.trans' hb0 hb hb0.size:ah w w')
   clear z0 z1 z2 z3 z4 z5 zf hf k0 k1
   by_cases U2:key<0
   ·clear hr
    go_wp2_with ((go_at_call 73;(with_reducible refine iq.out.mono ?_);rintro e w1 ⟨rfl,hb1⟩;have hz:=HZ.out _ hb1;obtain⟨z0,z1,z2,z3,z4,z5,zf⟩:=cF hz;have cZ:=HB.out _ hb1))
    rw [HR.out]
    exact bodyPost_ret (v:= .tuple #[.agg #[.int .i64 0, .int .i64 0, .int .i64 0, .int .i64 0, .int .i64 0, .int .i64 0], .int .i64 2]) (by simp [results,Tryd.results74,go_sem, *]) rfl ⟨rfl,ag⟩
   ·have hr1:1099511627776<=key:=af
    clear hr
    go_wp2_with ((go_at_call 73;(with_reducible refine iq.out.mono ?_);rintro e w1 ⟨rfl,hb1⟩;have hz:=HZ.out _ hb1;obtain⟨z0,z1,z2,z3,z4,z5,zf⟩:=cF hz;have cZ:=HB.out _ hb1))
    rw [HR.out]
    exact bodyPost_ret (v:= .tuple #[.agg #[.int .i64 0, .int .i64 0, .int .i64 0, .int .i64 0, .int .i64 0, .int .i64 0], .int .i64 2]) (by simp [results,Tryd.results74,go_sem, *]) rfl ⟨rfl,ag⟩
 ·have HR:=hdd (show AZ t key=(aw.zero,ax t) by rw [yE,ai hf])
  have d2:(ax t != 0)=true:=by simp [hf]
  obtain⟨F,hF⟩:=bt (ax t)
  rw [hF]at iq HR d2
  have HZ:=hdd fun w' (hb:ah W0 w')=>(hb.block (w.heap.size+1) af).trans k1
  have HB:=hdd fun w' (hb:ah W0 w')=>(Below.trans' hb0 hb hb0.size:ah w w')
  clear hf hF k0 k1
  go_wp2_with ((go_at_call 73;(with_reducible refine iq.out.mono ?_);rintro e w1 ⟨rfl,hb1⟩;have hz:=HZ.out _ hb1;obtain⟨z0,z1,z2,z3,z4,z5,zf⟩:=cF hz;have cZ:=HB.out _ hb1))
  rw [HR.out]
  exact bodyPost_ret (v:= .tuple #[.agg #[.int .i64 0, .int .i64 0, .int .i64 0, .int .i64 0, .int .i64 0, .int .i64 0], .int .i64 F]) (by simp [results,Tryd.results74,go_sem, *]) rfl ⟨rfl,ag⟩
end
end Go.Proofs.YtmljjfhgciaceaaDoor
