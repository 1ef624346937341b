/- Texts of mine that come as one: Rest SplitA SplitB SplitC SplitD Split. -/
import Derived.Test.YtmljjfhgciaceaaGreatDoorHd
import Derived.Test.YtmljjfhgciaceaaGreatDoorDG
import Derived.Test.YtmljjfhgciaceaaGreatDoorIG
import Derived.Test.YtmljjfhgciaceaaGreatDoorSO
import Derived.Test.YtmljjfhgciaceaaGreatDoorAW
namespace Go.Proofs.YtmljjfhgciaceaaGreatDoor
open Go.RowKit
section
set_option maxRecDepth 100000
set_option maxHeartbeats 4000000
variable {n:Int} {t t':Tr} {w:World}
theorem FQ {e:aA} (h:oL n t e=some t'):∃x b,t.dm n=some x/\vp x.buf/\jX e/\jJ x.buf e=some b/\t'=cJ t n { x with buf:=b }:=by
 unfold oL at h
 split at h
 ·cases h
 ·rename_i x hx
  obtain⟨b,hb,rfl⟩:=Option.map_eq_some_iff.1 h
  unfold xM at hb
  split at hb
  ·rename_i hg
   exact⟨x,b,hx,hg.1,hg.2,hb,rfl⟩
  ·cases hb
theorem Di {B:Nat} {F F':Nat->Prop} {w':World} {v:Value} {es:List aA} (h:au B w v es) (hs:nE F F' w w') (hF:∀b,v.ownBlock=some b->¬F b):au B w' v es/\∀b,v.ownBlock=some b->¬F' b:=
 ⟨h.block fun g hg=>(hs.stay (h.lt g hg).2 (hF g hg)).1,fun b hb=>(hs.stay (h.lt b hb).2 (hF b hb)).2⟩
def kM (M:Nat) (bb:Nat) (F:Nat->Prop) (w:World) (t':Tr) (w':World):Prop:=∃kU fQ,Bd M w' bb kU fQ t'/\nE F (dE bb kU fQ) w w'
theorem Lx {M:Nat} {bb:Nat} {nv:Value} {rs:List Raw} {key:Int} {dv:Value} {all:List aA} (h:Bd M w bb nv rs t) (hd:au M w dv all) (hdF:∀b,dv.ownBlock=some b->¬dE bb nv rs b) (hl:all.length<=20)
  (hF:(all.filter fun d=>decide (key<d.key)).foldlM (oL n) t=some t') :
  Calls Tryz.prog 128 #[.pointer (some ⟨bb,0,none⟩), .int .i64 n,dv, .int .i64 key] w fun e w'=>e = .returned (.tuple #[])/\kM M bb (dE bb nv rs) w t' w':=by
 obtain⟨ds,dc,rfl⟩:=hd.isSlice
 have HST:=hdd (aO h (aO hd (aO hdF hF)))
 clear h hd hdF hF
 go_enter Tryz.func128,Tryz.ntmps128
 go_wp2_with fail
 go_loopg [12] all.length (fun g i wr=>∃k:Nat,k<=all.length/\g=all.length-k/\i = .int .i64 k/\Hid (∃kU fQ tk,Bd M wr bb kU fQ tk/\nE (dE bb nv rs) (dE bb kU fQ) w wr/\au M wr (.slice ds all.length dc) all/\(∀b,(Value.slice ds all.length dc).ownBlock=some b->¬dE bb kU fQ b)/\((all.drop k).filter fun d=>decide (key<d.key)).foldlM (oL n) tk=some t'))
 case atStart=>exact⟨0,jf _,rfl,rfl,hdd ⟨nv,rs,t,HST.out.1,nE.refl _ _,HST.out.2.1,HST.out.2.2.1,HST.out.2.2.2⟩⟩
 case round=>
  clear HST
  obtain⟨k,hk,rfl,rfl,HR⟩:=hrel
  obtain⟨kU,fQ,tk,hB,hS,ho,Vc,hf⟩:=HR.out
  by_cases jK:k<all.length
  ·obtain⟨_,_,hv,-,-,-,-,h5⟩:=ho.at af
   injection hv with hv1 _ hv3
   subst hv3
   obtain⟨eb,aH,lQ,r8,nD⟩:=h5 af
   subst lQ
   subst hv1
   obtain⟨y0,y1,y2,y3,y4,y5,y6⟩:=bT (aL _ _) r8 nD jK
   obtain⟨y,hy⟩:=bC (all[k])
   rw [hy]at y0 y1 y2 y3 y4 y5 y6
   rw [vh jK,hy]at hf
   obtain⟨W8,mO⟩:=bR (wr.alloc (.cells #[.int .i64 y.key, .int .i64 y.is.c, .int .i64 y.is.s, .int .i64 y.is.mi, .int .i64 y.is.ma, .int .i64 y.is.t, .int .i64 y.is.l] 107))
   have kQ:ah wr W8:=by rw [mO];exact ag
   have DW:W8.heap.size=wr.heap.size+1:=by rw [mO];simp
   have k8:W8.heap[wr.heap.size]?=some (.cells #[.int .i64 y.key, .int .i64 y.is.c, .int .i64 y.is.s, .int .i64 y.is.mi, .int .i64 y.is.ma, .int .i64 y.is.t, .int .i64 y.is.l] 107):=by rw [mO];exact aq _ _ rfl
   have IU:=hB.below kQ aI
   have Xu:=hS.trans (nE.of (F:=dE bb kU fQ) kQ aI)
   have Q6:=ho.below kQ aI
   have hF8:¬dE bb kU fQ wr.heap.size:=fun hf=>by have:=(hB.lt _ hf).2;omega
   have lA:=fun w'=>dC (ab:=eb) (bp:=aH) (n:=all.length) (cap:=dc) (show (k:Int)=((k:Nat):Int) by rfl) jK w'
   have s0:W8.cell? ⟨wr.heap.size,0,none⟩=some (.int .i64 y.key):=by simp [World.cell?,k8]
   have HK8:=hdd k8
   have fc:=hdd (aO IU (aO Xu (aO Q6 Vc)))
   have HF8:=hdd hF8
   go_upto_region 3 with (fail)
   rw [<-mO]
   clear hB hS ho Vc mO IU Xu Q6 nD h5 hy y0 y1 y2 y3 y4 y5 y6 k8 lA HR hF8
   by_cases i1:key<y.key
   ·rw [tP (by simpa using i1),List.foldlM_cons]at hf
    cases hr:oL n tk y with
    |none=>rw [hr]at hf;cases hf
    |some t1=>
     rw [hr]at hf
     have X7:=hdd (show ((all.drop (k+1)).filter fun d=>decide (key<d.key)).foldlM (oL n) t1=some t' from hf)
     obtain⟨x,b,hx,hrow,hent,hins,ht1⟩:=FQ hr
     obtain⟨IU,Xu,Q6,Vc⟩:=fc.out
     obtain⟨j,nb,cap,r,rfl,rfl,kP,sx,hjl,hown⟩:=IU.place hx
     obtain⟨c0,-,-,-,-,c4,wG,Fe,hbl,hnl,vC⟩:=IU.cells kP
     obtain⟨bs,bc,r9⟩:=hown.buf.isSlice
     rw [r9]at c4
     have hm:=tD (w:=W8.drew) (x:=y) (au.drew (r9▸hown.buf)) (by have:=IU.low;show M<=W8.heap.size;omega) (by have:=hrow.2.2.2;omega) hrow.1 (fun e he=>(hrow.2.1 e he).2) hent.2.1 hrow.2.2.1 hent.2.2
     rw [hins]at hm
     have HM:=hdd hm
     have iw:=fun w'=>dR (ab:=nb) (bp:=0) (n:=fQ.length) (cap:=cap) (show (j:Int)=((j:Nat):Int) by rfl) hjl w'
     simp only [iX]at iw
     have iK:=hdd fun(W:World) (hT:aw (fun b=>(Value.slice bs x.buf.length bc).ownBlock=some b) W8 W)=>(by
      have g1:∀b,b<W8.heap.size->(Value.slice bs x.buf.length bc).ownBlock≠some b->∀o,W.cell? ⟨b,o,none⟩=W8.cell? ⟨b,o,none⟩:=fun b hb hne o=>hT.cell hb hne o
      have hsl:∀b,(Value.slice bs x.buf.length bc).ownBlock=some b->b≠bb/\b≠nb/\b≠wr.heap.size:=fun b hb=>by
       rw [<-r9]at hb
       have:=IU.off j r 3 b kP hb
       exact⟨this.1,fun e=>this.2 (by rw [e];rfl),fun e=>HF8.out (by rw [<-e];exact .inr (.inr ⟨j,r,3,kP,hb⟩))⟩
      have e1:=g1 bb hbl (fun h=>(hsl bb h).1 rfl)
      have e2:=g1 nb hnl (fun h=>(hsl nb h).2.1 rfl)
      have e3:=g1 wr.heap.size af (fun h=>(hsl _ h).2.2 rfl)
      refine⟨(e1 0).trans c0,(e2 _).trans c4,?_⟩
      rw [e3,e3,e3,e3,e3,e3,e3]
      simp [World.cell?,HK8.out]:W.cell? ⟨bb,0,none⟩=some (.slice (some ⟨nb,0,none⟩) fQ.length cap)/\W.cell? ⟨nb,j*5+4,none⟩=some (.slice bs x.buf.length bc)/\W.cell? ⟨wr.heap.size,0,none⟩=some (.int .i64 y.key)/\W.cell? ⟨wr.heap.size,1,none⟩=some (.int .i64 y.is.c)/\W.cell? ⟨wr.heap.size,2,none⟩=some (.int .i64 y.is.s)/\W.cell? ⟨wr.heap.size,3,none⟩=some (.int .i64 y.is.mi)/\W.cell? ⟨wr.heap.size,4,none⟩=some (.int .i64 y.is.ma)/\W.cell? ⟨wr.heap.size,5,none⟩=some (.int .i64 y.is.t)/\W.cell? ⟨wr.heap.size,6,none⟩=some (.int .i64 y.is.l))
     have H9:=hdd fun(W:World) (hT:aw (fun b=>(Value.slice bs x.buf.length bc).ownBlock=some b) W8 W)=>(by
      have hne:(Value.slice bs x.buf.length bc).ownBlock≠some nb:=fun h=>by rw [<-r9]at h;exact(IU.off j r 3 nb kP h).2 rfl
      exact fun o=>(hT.frozen hnl hne o).trans (wG o):∀o,W.frozen? ⟨nb,o,none⟩=false)
     have Ah:=hdd fun(W:World) (v':Value) (hT:aw (fun b=>(Value.slice bs x.buf.length bc).ownBlock=some b) W8 W) (hv:au M W v' b) (hv':∀b,v'.ownBlock=some b->(Value.slice bs x.buf.length bc).ownBlock=some b\/W8.heap.size<=b)=>(by
      obtain⟨q1,q2⟩:=IU.field (f:=3) rfl kP sx af (w1:=W) (v':=v') (x':={ x with buf:=b }) (by show aw (fun b=>r.bv.ownBlock=some b) W8 W;rw [r9];exact hT) hv.row (by show ∀b,v'.ownBlock=some b->r.bv.ownBlock=some b\/_;rw [r9];exact hv') rfl (fun g hg=>by
       rcases lH g 4 with h4|h4
       ·rcases vA h4 with rfl|rfl|rfl|rfl <;> first|exact⟨rfl,rfl⟩|exact absurd rfl hg
       ·obtain⟨k,rfl⟩:∃k,g=k+4:=⟨g-4,af⟩;exact⟨rfl,rfl⟩) rfl
      obtain⟨q3,q4⟩:=Di Q6 q2 Vc
      exact⟨_,_,t1,ht1▸q1,Xu.trans q2,q3,q4,X7.out⟩:∃kU fQ tk,Bd M (W.setCell ⟨nb,j*5+4,none⟩ v') bb kU fQ tk/\nE (dE bb nv rs) (dE bb kU fQ) w (W.setCell ⟨nb,j*5+4,none⟩ v')/\au M (W.setCell ⟨nb,j*5+4,none⟩ v') (.slice (some ⟨eb,aH,none⟩) all.length dc) all/\(∀b,(Value.slice (some ⟨eb,aH,none⟩) all.length dc).ownBlock=some b->¬dE bb kU fQ b)/\((all.drop (k+1)).filter fun d=>decide (key<d.key)).foldlM (oL (j:Int)) tk=some t')
     clear IU Xu Q6 Vc hx hrow hent hins ht1 kP sx hown r9 c0 c4 wG Fe hm hr hf
     go_wp2_with fail
     refine bH [(0,1),(1,1),(2,1),(3,1),(4,0),(5,1),(6,1),(7,1),(8,1),(9,1),(10,0),(11,1),(12,1),(13,1),(14,0),(15,0),(16,2),(17,1),(18,1),(19,1),(20,1),(21,1),(22,3)] 22
      (fun W=>W.cell? ⟨bb,0,none⟩=some (.slice (some ⟨nb,0,none⟩) fQ.length cap)/\W.cell? ⟨nb,j*5+4,none⟩=some (.slice bs x.buf.length bc)/\W.cell? ⟨wr.heap.size,0,none⟩=some (.int .i64 y.key)/\W.cell? ⟨wr.heap.size,1,none⟩=some (.int .i64 y.is.c)/\W.cell? ⟨wr.heap.size,2,none⟩=some (.int .i64 y.is.s)/\W.cell? ⟨wr.heap.size,3,none⟩=some (.int .i64 y.is.mi)/\W.cell? ⟨wr.heap.size,4,none⟩=some (.int .i64 y.is.ma)/\W.cell? ⟨wr.heap.size,5,none⟩=some (.int .i64 y.is.t)/\W.cell? ⟨wr.heap.size,6,none⟩=some (.int .i64 y.is.l)) cv cv (iK.out _ (aw.drew (aw.refl _ _))) ?_
     (simp only [bF,List.filterMap_cons,List.filterMap_nil,List.getElem?_cons_zero,List.getElem?_cons_succ,Option.map_some])
     (repeat first|refine aV ?_|refine aU ?_)
     refine aM rfl (fun K hK=>?_)
     go_simp
     (with_reducible refine HM.out.mono ?_);rintro e w5 ⟨qo,v5,rfl,iD,U6⟩
     have PR:aw (fun b=>(Value.slice bs x.buf.length bc).ownBlock=some b) W8 w5:=(aw.drew (aw.refl _ _)).trans qo
     go_simp
     refine hK _ _ (iK.out _ PR) ?_
     clear hK K
     have HV:=hdd (Ah.out w5 v5 PR iD U6)
     have hfz:=H9.out _ PR (j*5+4)
     obtain⟨-,Y2,-⟩:=iK.out _ PR
     obtain⟨s5,c5,rfl⟩:=iD.isSlice
     clear qo iD U6
     (repeat first|refine aV ?_|refine aU ?_)
     refine bn rfl (fun K hK=>?_)
     go_simp
     refine hK _ _ ?_
     clear hK K
     refine cj ?_
     go_wp2
     go_roundg (all.length-(k+1))
     case measure=>omega
     case rel=>exact⟨k+1,af,rfl,by go_num,HV⟩
   ·rw [sH (by simpa using i1)]at hf
    have HV:=hdd (by exact⟨_,_,tk,fc.out.1,fc.out.2.1,fc.out.2.2.1,fc.out.2.2.2,hf⟩:∃kU fQ tk,Bd M W8 bb kU fQ tk/\nE (dE bb nv rs) (dE bb kU fQ) w W8/\au M W8 (.slice (some ⟨eb,aH,none⟩) all.length dc) all/\(∀b,(Value.slice (some ⟨eb,aH,none⟩) all.length dc).ownBlock=some b->¬dE bb kU fQ b)/\((all.drop (k+1)).filter fun d=>decide (key<d.key)).foldlM (oL n) tk=some t')
    have i1':y.key<=key:=af
    clear hf i1
    go_wp2
    go_roundg (all.length-(k+1))
    case measure=>omega
    case rel=>exact⟨k+1,af,rfl,by go_num,HV⟩
  ·rw [AL af]at hf
   obtain rfl:=dt hf
   have HV:=hdd (show kM M bb (dE bb nv rs) w tk wr from ⟨_,_,hB,hS⟩)
   clear hB hS ho Vc HR hf
   go_wp2
   go_end0
   exact⟨rfl,HV.out⟩
end
section
set_option maxRecDepth 100000
set_option maxHeartbeats 4000000
variable {es:List aA} {M g c i:Nat} {x:Nd} {r:Raw} {w:World}
theorem Dj (h:au M w (.slice (some ⟨g,0,none⟩) es.length c) es) (hl:es.length<=1000) (hi:i<=es.length) (o:Nat) (ho:i<es.length->o=i*7) :
  ft w (.slice (some ⟨g,o,none⟩) (es.length-i) (c-i)) (es.drop i):=by
 obtain⟨ao,cap,hv,h1,h2,h3,h4,h5⟩:=h.at af
 injection hv with hv1 _ hv3
 subst hv3
 refine⟨_,_,by rw [oF],by rw [oF];omega,af,by rw [oF];omega,bt,fun h0=>?_⟩
 rw [oF]at h0
 obtain rfl:=ho af
 obtain⟨b,off,hb,hlt,hc⟩:=h5 af
 rw [<-hv1]at hb
 injection hb with hb;injection hb with e1 e2
 subst e1 e2
 refine⟨g,i*7,rfl,hlt,fun k x hk j u hu=>?_⟩
 rw [List.getElem?_drop]at hk
 have:=hc (i+k) x hk j u hu
 rw [<-this];congr 2;omega
theorem Dh (h:au M w (.slice (some ⟨g,0,none⟩) es.length c) es) (hl:es.length<=1000) (hi:i<=es.length) :
  ft w (.slice (some ⟨g,0,none⟩) i c) (es.take i):=by
 obtain⟨ao,cap,hv,h1,h2,h3,h4,h5⟩:=h.at af
 injection hv with hv1 _ hv3
 subst hv3
 refine⟨_,_,by rw [fx,Nat.min_eq_left hi],by rw [fx,Nat.min_eq_left hi];omega,af,by rw [fx,Nat.min_eq_left hi];omega,bt,fun h0=>?_⟩
 rw [fx,Nat.min_eq_left hi]at h0
 obtain⟨b,off,hb,hlt,hc⟩:=h5 af
 rw [<-hv1]at hb
 injection hb with hb;injection hb with e1 e2
 subst e1 e2
 refine⟨g,0,rfl,hlt,fun k x hk j u hu=>hc k x ?_ j u hu⟩
 rw [qE]at hk
 split at hk
 ·exact hk
 ·cases hk
theorem rU {es:List Int} (h:bw M w (.slice (some ⟨g,0,none⟩) es.length c) es) (hl:es.length<=1000) (hi:i<=es.length) (o:Nat) (ho:i<es.length->o=i) :
  gy w (.slice (some ⟨g,o,none⟩) (es.length-i) (c-i)) (es.drop i):=by
 obtain⟨ao,cap,hv,h1,h2,h3,h4,h5⟩:=h.at af
 injection hv with hv1 _ hv3
 subst hv3
 refine⟨_,_,by rw [oF],by rw [oF];omega,af,by rw [oF];omega,bt,fun h0=>?_⟩
 rw [oF]at h0
 obtain rfl:=ho af
 obtain⟨b,off,hb,hlt,hc⟩:=h5 af
 rw [<-hv1]at hb
 injection hb with hb;injection hb with e1 e2
 subst e1 e2
 refine⟨g,o,rfl,hlt,fun k x hk j u hu=>?_⟩
 rw [List.getElem?_drop]at hk
 have:=hc (o+k) x hk j u hu
 rw [<-this];congr 2;omega
theorem rT {es:List Int} (h:bw M w (.slice (some ⟨g,0,none⟩) es.length c) es) (hl:es.length<=1000) (hi:i<=es.length) :
  gy w (.slice (some ⟨g,0,none⟩) i c) (es.take i):=by
 obtain⟨ao,cap,hv,h1,h2,h3,h4,h5⟩:=h.at af
 injection hv with hv1 _ hv3
 subst hv3
 refine⟨_,_,by rw [fx,Nat.min_eq_left hi],by rw [fx,Nat.min_eq_left hi];omega,af,by rw [fx,Nat.min_eq_left hi];omega,bt,fun h0=>?_⟩
 rw [fx,Nat.min_eq_left hi]at h0
 obtain⟨b,off,hb,hlt,hc⟩:=h5 af
 rw [<-hv1]at hb
 injection hb with hb;injection hb with e1 e2
 subst e1 e2
 refine⟨g,0,rfl,hlt,fun k x hk j u hu=>hc k x ?_ j u hu⟩
 rw [qE]at hk
 split at hk
 ·exact hk
 ·cases hk
theorem gV.keys (h:gV M w r x):bw M w r.kv x.keys:=⟨h.row 1⟩
theorem gV.kids (h:gV M w r x):bw M w r.dv x.kids:=⟨h.row 2⟩
theorem yH {bb:Nat} {nv:Value} {rs:List Raw} {t:Tr} {n:Int} (h:Bd M w bb nv rs t) (hx:t.dm n=some x) (hs:(x.leaf=true/\x.aF.length<=6)\/(x.leaf=false/\x.kids.length<=4)) :
  Calls Tryz.prog 119 #[.pointer (some ⟨bb,0,none⟩), .int .i64 n] w fun e w'=>e = .returned (.tuple #[.int .i64 (-1), .int .i64 0])/\kM M bb (dE bb nv rs) w t w':=by
 obtain⟨j,nb,cap,r,rfl,rfl,kP,sx,hjl,hown⟩:=h.place hx
 obtain⟨c0,k0,k1,k2,k3,k4,wG,Fe,hbl,hnl,vC⟩:=h.cells kP
 have HB:=hdd fun w' (hb:ah w w')=>(⟨_,_,h.below hb aI,nE.of hb aI⟩:kM M bb (dE bb (.slice (some ⟨nb,0,none⟩) rs.length cap) rs) w t w')
 obtain⟨es,ec,hev⟩:=hown.aF.isSlice
 obtain⟨ks,kc,yh⟩:=hown.keys.isSlice
 obtain⟨ds,dc,Bl⟩:=hown.kids.isSlice
 obtain⟨bs,bc,r9⟩:=hown.buf.isSlice
 rw [hown.leaf]at k0
 rw [hev]at k1
 rw [yh]at k2
 rw [Bl]at k3
 rw [r9]at k4
 have iw:=fun w'=>dR (ab:=nb) (bp:=0) (n:=rs.length) (cap:=cap) (show (j:Int)=((j:Nat):Int) by rfl) hjl w'
 simp only [iX]at iw
 rcases hs with ⟨hl,hs⟩|⟨hl,hs⟩
 ·rw [hl]at k0
  have hs':(x.aF.length:Int)<=6:=af
  clear h hx kP sx hown hev yh Bl r9 wG Fe hl hs
  go_enter Tryz.func119,Tryz.ntmps119
  go_wp2
  go_ret2
  exact⟨rfl,HB.out _ ag⟩
 ·rw [hl]at k0
  have hs':(x.kids.length:Int)<=4:=af
  clear h hx kP sx hown hev yh Bl r9 wG Fe hl hs
  go_enter Tryz.func119,Tryz.ntmps119
  go_wp2
  go_ret2
  exact⟨rfl,HB.out _ ag⟩
end
section
set_option maxRecDepth 100000
set_option maxHeartbeats 4000000
theorem pQ:∃i0 z,Tryz.prog.info? 125=some i0/\i0.zero=some z/\i0.size=5/\i0.bytes=104/\z.cells.size=5:=by
 obtain⟨i0,z,hi,hz,hz1,hz2,hz3⟩:=cG Tryz.QV
 exact⟨i0,z,hi,hz,hz1,hz2,hz3⟩
theorem nR (M:Nat) (w:World) (e:TypeId) (k:Nat):w.ownsRow M e k (.slice none 0 0) 0 []:=World.ownsRow_nil _ _ _ _
theorem Fz {M:Nat} {w:World} {bb:Nat} {nv:Value} {rs:List Raw} {t:Tr} {n:Int} {x:Nd} (h:Bd M w bb nv rs t) (hx:t.dm n=some x) (hl:x.leaf=true) (h7:x.aF.length=7) (hm:t.nodes.length<=1000000000000) :
  Calls Tryz.prog 119 #[.pointer (some ⟨bb,0,none⟩), .int .i64 n] w fun e w'=>e = .returned (.tuple #[.int .i64 t.nodes.length, .int .i64 (x.aF.getD 3 default).key]) /\
   kM M bb (dE bb nv rs) w (cJ (jo t ⟨true,x.aF.drop 3,[],[],[]⟩) n { x with aF:=x.aF.take 3 }) w':=by
 obtain⟨j,nb,cap,r,rfl,rfl,kP,sx,hjl,hown⟩:=h.place hx
 obtain⟨c0,k0,k1,k2,k3,k4,wG,Fe,hbl,hnl,vC⟩:=h.cells kP
 obtain⟨es,ec,hev⟩:=hown.aF.isSlice
 obtain⟨ks,kc,yh⟩:=hown.keys.isSlice
 obtain⟨ds,dc,Bl⟩:=hown.kids.isSlice
 obtain⟨bs,bc,r9⟩:=hown.buf.isSlice
 have ho0:=hown.aF
 rw [hev]at ho0
 obtain⟨eb,Vu,hes,-,-⟩:=World.ownsRow.form ho0.row af
 injection hes with abg _ abf
 subst abg abf
 have nD:7<=ec:=by obtain⟨_,_,hv,h1,_⟩:=ho0.at af;injection hv with _ _ hv3;omega
 have heo:=h.off j r 0 eb kP (by show r.ev.ownBlock=_;rw [hev];rfl)
 have Gz:eb≠bb:=heo.1
 have S5:eb≠nb:=fun e=>heo.2 (by rw [e];rfl)
 have abj:eb<w.heap.size:=(ho0.lt eb rfl).2
 have hM:M<=w.heap.size:=by have:=(h.lt bb (.inl rfl)).1;omega
 rw [hown.leaf,hl]at k0
 rw [hev,h7]at k1
 rw [yh]at k2
 rw [Bl]at k3
 rw [r9]at k4
 have iw:=fun w'=>dR (ab:=nb) (bp:=0) (n:=rs.length) (cap:=cap) (show (j:Int)=((j:Nat):Int) by rfl) hjl w'
 simp only [iX]at iw
 obtain⟨y,hy⟩:∃y,x.aF[3]?=some y:=⟨x.aF[3],by simp [h7]⟩
 have IJ:(x.aF.getD 3 default)=y:=by rw [List.getD_eq_getElem?_getD,hy];rfl
 have Ms:w.cell? ⟨eb,21,none⟩=some (.int .i64 y.key):=by
  obtain⟨ao,c,hv,h1,h2,h3,h4,h5⟩:=ho0.at af
  injection hv with hv1 _ hv3
  obtain⟨b,off,hb,hlt,hc⟩:=h5 af
  rw [<-hv1]at hb
  injection hb with hb;injection hb with e1 e2
  subst e1 e2
  have:=hc 3 y hy 0 (.int .i64 y.key) rfl
  simpa using this
 rw [IJ]
 obtain⟨W1,hW1⟩:=bR (w.alloc (.cells #[.bool true, .slice (some ⟨eb,0,none⟩) 7 ec, .slice ks x.keys.length kc, .slice ds x.kids.length dc, .slice bs x.buf.length bc] 125))
 have hb1:ah w W1:=by rw [hW1];exact ag
 have hz1:W1.heap.size=w.heap.size+1:=by rw [hW1];simp
 have kx:W1.heap[w.heap.size]?=some (.cells #[.bool true, .slice (some ⟨eb,0,none⟩) 7 ec, .slice ks x.keys.length kc, .slice ds x.kids.length dc, .slice bs x.buf.length bc] 125):=by rw [hW1];exact aq _ _ rfl
 have Bo:=h.below hb1 aI
 have hS1:nE (dE bb (.slice (some ⟨nb,0,none⟩) rs.length cap) rs) (dE bb (.slice (some ⟨nb,0,none⟩) rs.length cap) rs) w W1:=nE.of hb1 aI
 have Az:=ho0.below hb1 aI
 -- what no step of this function turns
 have HX:=hdd fun(W:World) (hT:aw (fun b=>b=bb\/b=nb) W1 W)=>(by
  have e1:W.heap[w.heap.size]?=_:=(hT.block _ af (by rintro(e|e) <;> omega)).trans kx
  have e2:W.heap[eb]?=w.heap[eb]?:=(hT.block eb af (by rintro(e|e) <;> contradiction)).trans (hb1.block eb abj)
  exact⟨by simp [World.cell?,e1],by simp [World.cell?,e1],by rw [World.cell?_of_block (a:=⟨eb,21,none⟩) e2];exact Ms,ho0.block fun g hg=>by injection hg with hg;subst hg;exact e2⟩ :
  W.cell? ⟨w.heap.size,0,none⟩=some (.bool true)/\W.cell? ⟨w.heap.size,1,none⟩=some (.slice (some ⟨eb,0,none⟩) 7 ec)/\W.cell? ⟨eb,21,none⟩=some (.int .i64 y.key)/\au M W (.slice (some ⟨eb,0,none⟩) x.aF.length ec) x.aF)
 have HC:=hdd fun(W:World) (hT:aw (fun b=>b=bb\/b=nb) W1 W)=>(by
  have o:=(HX.out W hT).2.2.2
  have h1:=Dj (i:=3) o af af 21 (fun _=>rfl)
  have h2:=Dh (i:=3) o af af
  rw [h7]at h1
  have c1:=eV h1
  have c2:=eV h2
  exact⟨c1,c2⟩:Calls Tryz.prog 89 #[.slice (some ⟨eb,21,none⟩) (7-3) (ec-3)] W (fun e w'=>∃v',e = .returned v'/\w'.ownsRow W.heap.size 107 7 v' (x.aF.drop 3).length ((x.aF.drop 3).flatMap bh)/\ah W w') /\
   Calls Tryz.prog 89 #[.slice (some ⟨eb,0,none⟩) 3 ec] W (fun e w'=>∃v',e = .returned v'/\w'.ownsRow W.heap.size 107 7 v' (x.aF.take 3).length ((x.aF.take 3).flatMap bh)/\ah W w'))
 obtain⟨DR,hDR⟩:=bC (x.aF.drop 3)
 obtain⟨TK,hTK⟩:=bC (x.aF.take 3)
 rw [hDR,hTK]at HC ⊢
 clear hDR hTK
 obtain⟨i0,z0,hi0,hz0,D4,DZ,DY⟩:=pQ
 have hlen:rs.length=t.nodes.length:=h.len
 have hrl:rs.length<=1000000000000:=af
 have fc:=hdd (aO Bo (aO hS1 (aO kP (aO sx hev))))
 have hg2:¬(ec=3):=af
 have hg3:(3:Int)<=(ec:Int):=af
 have Ed:bb<W1.heap.size:=af
 have WD:nb<W1.heap.size:=af
 have c0':W1.cell? ⟨bb,0,none⟩=some (.slice (some ⟨nb,0,none⟩) rs.length cap):=(hb1.cell (p:=⟨bb,0,none⟩) hbl).trans c0
 obtain⟨q0,q1,-⟩:=HX.out W1 (aw.refl _ _)
 have HYK:=hdd hy
 clear h hx hown hev yh Bl r9 hl hlen ho0 Az Bo hS1 heo kP sx IJ hy Ms
 go_enter Tryz.func119,Tryz.ntmps119
 go_upto_region 3 with (fail)
 rw [<-hW1]
 clear hW1 k0 k1 k2 k3 k4 wG c0 kx
 have iK:=hdd fun(W:World) (hT:aw (fun b=>b=nb) W1 W)=>(⟨(hT.cell Ed vC 0).trans c0',(HX.out W (hT.mono fun _ _ h=> .inr h)).2.1⟩:W.cell? ⟨bb,0,none⟩=some (.slice (some ⟨nb,0,none⟩) rs.length cap)/\W.cell? ⟨w.heap.size,1,none⟩=some (.slice (some ⟨eb,0,none⟩) 7 ec))
 have T0:aw (fun b=>b=nb) W1 W1.drew:=(aw.refl _ _).drew
 clear c0' q0 q1
 have q1:=(iK.out W1 (aw.refl _ _)).2
 go_wp2_with fail
 clear q1
 refine bH [(0,1),(1,1),(2,1),(3,1),(4,1),(5,0),(6,1),(7,0),(8,1),(9,1),(10,2),(11,1),(12,2),(13,2),(14,1),(15,1),(16,1),(17,3)] 17 (fun W=>W.cell? ⟨bb,0,none⟩=some (.slice (some ⟨nb,0,none⟩) rs.length cap)/\W.cell? ⟨w.heap.size,1,none⟩=some (.slice (some ⟨eb,0,none⟩) 7 ec)) cv cv (iK.out _ T0) ?_
 (simp only [bF,List.filterMap_cons,List.filterMap_nil,List.getElem?_cons_zero,List.getElem?_cons_succ,Option.map_some])
 (repeat first|refine aV ?_|refine aU ?_)
 refine aM rfl (fun K hK=>?_)
 go_simp
 (with_reducible refine(HC.out _ (T0.mono fun _ _ h=> .inr h)).1.mono ?_);rintro e w5 ⟨v5,rfl,iD,cz⟩
 obtain⟨s5,c5,rfl⟩:=(au.mk iD).isSlice
 have T5:aw (fun b=>b=nb) W1 w5:=T0.trans (aw.of cz aI)
 go_simp
 refine hK _ _ (iK.out _ T5) ?_
 clear hK K
 (repeat first|refine aV ?_|refine aU ?_)
 refine aM rfl (fun K hK=>?_)
 go_simp
 obtain⟨W6,tX⟩:=bR (w5.alloc (.cells #[.bool true,(.slice s5 DR.length c5), .slice none 0 0, .slice none 0 0, .slice none 0 0] 125))
 have jt:ah w5 W6:=by rw [tX];exact ag
 have k6:W6.heap[w5.heap.size]?=some (.cells #[.bool true,(.slice s5 DR.length c5), .slice none 0 0, .slice none 0 0, .slice none 0 0] 125):=by rw [tX];exact aq _ _ rfl
 have uE:W6.heap.size=w5.heap.size+1:=by rw [tX];simp
 rw [<-tX]
 have T6:aw (fun b=>b=nb) W1 W6:=T5.trans (aw.of jt aI)
 refine hK _ _ (iK.out _ T6) ?_
 clear hK K tX
 have kO:W1.heap.size<=w5.heap.size:=T5.size
 have Vo:ah W1 W6:=Below.trans' (show ah W1 w5 from ⟨cz.os,cz.tape,cz.output,cz.size,cz.block⟩) jt kO
 have xn:=(fc.out.1.below Vo aI).row
 refine aM rfl (fun K hK=>?_)
 refine wp_append_lies _ (.tmp 38) (.tmp 45) 25 rfl M 125 i0 z0 5 104 Tryz.underlying25 hi0 hz0 D4 DZ DY aY _ rs.length _ rfl xn ⟨w5.heap.size,0,none⟩ 1 1 (cM ⟨true,(.slice s5 DR.length c5), .slice none 0 0, .slice none 0 0, .slice none 0 0⟩) rfl rfl (World.news_of_block k6) ?hone aY (by unfold maxLen;omega) af af W6.heap.size rfl ?_
 case hone=>
  intro u hu
  simp [cM]at hu
  rcases hu with rfl|rfl|rfl <;> rfl
 intro g cap' w7 xm uI Rf MG
 have T7:aw (fun b=>b=nb) W1 w7:=aw.grown T6 uI (fun k hk=> .inl (by injection hk with hk;exact hk.symm))
 refine hK _ _ (iK.out _ T7) ?_
 clear hK K
 have vY:g=nb\/g=W6.heap.size:=Rf.imp (fun h=>(dt h).symm) id
 have DX:=uI.size
 have iZ:=hdd (fc.out.1.push (w1:=w7) (kU:= .slice (some ⟨g,0,none⟩) (rs.length+1) cap') (r:=⟨true,(.slice s5 DR.length c5), .slice none 0 0, .slice none 0 0, .slice none 0 0⟩) (x:=⟨true,DR,[],[],[]⟩) (T7.mono fun b _ h=>by rw [h];rfl) xm (fun b hb=>by
   have hb:g=b:=dt hb
   subst hb
   rcases vY with e|e
   ·left;rw [e];rfl
   ·right;rw [e];omega) (by
   have U6:∀b,(Value.slice s5 DR.length c5).ownBlock=some b->W1.heap.size<=b/\b<w5.heap.size:=fun b hb=>iD.lt b hb
   refine⟨gV.of rfl (bY (cP iD (by show M<=W1.heap.size;omega)) fun b hb=>?_) (nR _ _ _ _) (nR _ _ _ _) (nR _ _ _ _),fun f b hb=>?_,fun f g b hb hb'=>?_⟩
   ·have:=U6 b hb
    exact(uI.block b af (fun e=>by have e:b=nb:=dt e;omega)).trans (jt.block b af)
   ·rcases lH f 4 with h4|h4
    ·rcases vA h4 with rfl|rfl|rfl|rfl
     ·have:=U6 b hb;omega
     ·cases hb
     ·cases hb
     ·cases hb
    ·rw [Raw.ik _ h4]at hb;cases hb
   ·have z:∀f b,(Raw.lR ⟨true,(.slice s5 DR.length c5), .slice none 0 0, .slice none 0 0, .slice none 0 0⟩ f).ownBlock=some b->f=0:=fun f b hb=>by
     rcases lH f 4 with h4|h4
     ·rcases vA h4 with rfl|rfl|rfl|rfl <;> first|rfl|cases hb
     ·rw [Raw.ik _ h4]at hb;cases hb
    rw [z f b hb,z g b hb']) (fun f b hb e=>by
   have e:g=b:=dt e
   rcases lH f 4 with h4|h4
   ·rcases vA h4 with rfl|rfl|rfl|rfl
    ·have:=iD.lt b hb
     have:W1.heap.size<=b:=this.1
     omega
    ·cases hb
    ·cases hb
    ·cases hb
   ·rw [Raw.ik _ h4]at hb;cases hb))
 obtain⟨d0,-⟩:=iK.out _ T7
 have d1:w7.frozen? ⟨bb,0,none⟩=false:=(T7.frozen Ed vC 0).trans ((hb1.frozen (p:=⟨bb,0,none⟩) hbl).trans (Fe 0))
 (repeat first|refine aV ?_|refine aU ?_)
 refine bn rfl (fun K hK=>?_)
 go_simp
 refine hK _ _ ?_
 clear hK K
 refine cj ?_
 have T8:aw (fun b=>b=bb\/b=nb) W1 (w7.setCell ⟨bb,0,none⟩ (.slice (some ⟨g,0,none⟩) (rs.length+1) cap')):=(T7.mono fun _ _ h=> .inr h).setCell (.inl (.inl rfl)) _
 generalize w7.setCell ⟨bb,0,none⟩ (.slice (some ⟨g,0,none⟩) (rs.length+1) cap')=W8 at iZ T8 ⊢
 clear iK T0 T5 T6 T7 cz iD jt Vo xn k6 xm uI Rf MG d0 d1
 have D8:(rs++[(⟨true,(.slice s5 DR.length c5), .slice none 0 0, .slice none 0 0, .slice none 0 0⟩:Raw)])[j]?=some r:=by rw [zW hjl];exact fc.out.2.2.1
 have aah:(jo t ⟨true,DR,[],[],[]⟩).nodes[j]?=some x:=by
  have:=fc.out.2.2.2.1
  exact(zW (gJ.1 this).1).trans this
 have OB:(rs++[(⟨true,(.slice s5 DR.length c5), .slice none 0 0, .slice none 0 0, .slice none 0 0⟩:Raw)]).length=rs.length+1:=bt
 have hcells:=iZ.out.1
 rw [<-OB]at hcells
 obtain⟨e0,-,e1,-,-,-,Ru,-,e2,e3,e4⟩:=hcells.cells D8
 rw [OB]at e0
 have ML:=fun w'=>dR (ab:=g) (bp:=0) (n:=rs.length+1) (cap:=cap') (show (j:Int)=((j:Nat):Int) by rfl) af w'
 simp only [iX]at ML
 have iK:=hdd fun(W:World) (hT:ah W8 W)=>(⟨(hT.cell (p:=⟨bb,0,none⟩) e2).trans e0,(HX.out W (T8.trans (aw.of hT aI))).2.1⟩:W.cell? ⟨bb,0,none⟩=some (.slice (some ⟨g,0,none⟩) (rs.length+1) cap')/\W.cell? ⟨w.heap.size,1,none⟩=some (.slice (some ⟨eb,0,none⟩) 7 ec))
 have T0:ah W8 W8.drew:=(aL _ _).drew
 have HE1:=hdd e1
 have UN:=hdd Ru
 have Yq:=hdd hcells
 clear hcells e0 e1 Ru iw
 go_wp2_with fail
 refine bH [(0,1),(1,1),(2,1),(3,1),(4,0),(5,1),(6,1),(7,0),(8,1),(9,1),(10,2),(11,1),(12,1),(13,3)] 13 (fun W=>W.cell? ⟨bb,0,none⟩=some (.slice (some ⟨g,0,none⟩) (rs.length+1) cap')/\W.cell? ⟨w.heap.size,1,none⟩=some (.slice (some ⟨eb,0,none⟩) 7 ec)) cv cv (iK.out _ T0) ?_
 (simp only [bF,List.filterMap_cons,List.filterMap_nil,List.getElem?_cons_zero,List.getElem?_cons_succ,Option.map_some])
 (repeat first|refine aV ?_|refine aU ?_)
 refine aM rfl (fun K hK=>?_)
 go_simp
 (with_reducible refine(HC.out _ (T8.trans (aw.of T0 aI))).2.mono ?_);rintro e w9 ⟨v9,rfl,SY,pR⟩
 obtain⟨s9,c9',rfl⟩:=(au.mk SY).isSlice
 have B9:ah W8 w9:=Below.trans' T0 pR aI
 go_simp
 refine hK _ _ (iK.out _ B9) ?_
 clear hK K
 have d3:w9.cell? ⟨g,j*5+1,none⟩=some r.ev:=(B9.cell (p:=⟨g,_,none⟩) e3).trans HE1.out
 have d4:w9.frozen? ⟨g,j*5+1,none⟩=false:=(B9.frozen (p:=⟨g,_,none⟩) e3).trans (UN.out _)
 have DW:=T8.size
 have UK:=hdd (Yq.out.field (f:=0) (n:=j) (w1:=w9) (v':= .slice s9 TK.length c9') (x':={ x with aF:=TK }) rfl D8 aah af (aw.of B9 aI) (cP SY (by show M<=W8.heap.size;omega)) (fun b hb=> .inr (SY.lt b hb).1) rfl (fun g hg=>by
  rcases lH g 4 with h4|h4
  ·rcases vA h4 with rfl|rfl|rfl|rfl <;> first|exact⟨rfl,rfl⟩|exact absurd rfl hg
  ·obtain⟨k,rfl⟩:∃k,g=k+4:=⟨g-4,af⟩;exact⟨rfl,rfl⟩) (o:=j*5+1) rfl)
 (repeat first|refine aV ?_|refine aU ?_)
 refine bn rfl (fun K hK=>?_)
 go_simp
 refine hK _ _ ?_
 clear hK K
 refine cj ?_
 have hgE:eb≠g:=by
  rcases vY with e|e
  ·rw [e];exact S5
  ·omega
 have hgX:w.heap.size≠g:=by
  rcases vY with e|e
  ·rw [e];omega
  ·omega
 have c9:=iK.out _ B9
 have x9:=HX.out _ (T8.trans (aw.of B9 aI))
 have f0:(w9.setCell ⟨g,j*5+1,none⟩ (.slice s9 TK.length c9')).cell? ⟨bb,0,none⟩=some (.slice (some ⟨g,0,none⟩) (rs.length+1) cap'):=by rw [World.cell?_of_block (a:=⟨bb,0,none⟩) (heap_setCell_other w9 ⟨g,_,none⟩ bb (.slice s9 TK.length c9') e4)];exact c9.1
 have f1:(w9.setCell ⟨g,j*5+1,none⟩ (.slice s9 TK.length c9')).cell? ⟨w.heap.size,1,none⟩=some (.slice (some ⟨eb,0,none⟩) 7 ec):=by rw [World.cell?_of_block (a:=⟨w.heap.size,1,none⟩) (heap_setCell_other w9 ⟨g,_,none⟩ _ (.slice s9 TK.length c9') hgX)];exact c9.2
 have f2:(w9.setCell ⟨g,j*5+1,none⟩ (.slice s9 TK.length c9')).cell? ⟨eb,21,none⟩=some (.int .i64 y.key):=by rw [World.cell?_of_block (a:=⟨eb,21,none⟩) (heap_setCell_other w9 ⟨g,_,none⟩ _ (.slice s9 TK.length c9') hgE)];exact x9.2.2.1
 generalize w9.setCell ⟨g,j*5+1,none⟩ (.slice s9 TK.length c9')=WA at UK f0 f1 f2 ⊢
 clear iK d3 d4 c9 x9 SY pR B9 T0 T8 HC HX
 have hw0:IntKind.i64.wrap ((rs.length:Int)+1-1)=(rs.length:Int)+1-1:=IntWalk.i64_in _ af
 have hw1:IntKind.i64.wrap ((rs.length:Int)+1-1)=(rs.length:Int):=by rw [hw0];omega
 clear hw0
 have hlen:rs.length=t.nodes.length:=fc.out.1.len
 go_wp2_with fail
 go_quiet (fail)
 go_wp2
 go_ret2
 have KZ:ah WA WA:=aL _ _
 exact⟨rfl,_,_,UK.out.1.below (show ah WA _ from ag) aI,((fc.out.2.1.trans iZ.out.2).trans UK.out.2).trans (nE.of (show ah WA _ from ag) aI)⟩
end
section
set_option maxRecDepth 100000
set_option maxHeartbeats 6000000
variable {M:Nat} {x:Nd} {w:World}
theorem Cs {H:Nat} {lf:Bool} {v1 v2 v3:Value} {a b c:Nat} (hl:x.leaf=lf) (he:x.aF=[]) (h1:w.ownsRow M 3 1 v1 x.keys.length (x.keys.flatMap bW)) (h2:w.ownsRow M 3 1 v2 x.kids.length (x.kids.flatMap bW))
  (h3:w.ownsRow M 107 7 v3 x.buf.length (x.buf.flatMap bh)) (k1:∀g,v1.ownBlock=some g->H<=g/\g<a) (k2:∀g,v2.ownBlock=some g->a<=g/\g<b) (k3:∀g,v3.ownBlock=some g->b<=g/\g<c) (hab:H<=a) (hbc:a<=b) (hc:b<=c) (hcw:c<=w.heap.size) :
  E7 M H w ⟨lf, .slice none 0 0,v1,v2,v3⟩ x/\∀f g,(Raw.lR ⟨lf, .slice none 0 0,v1,v2,v3⟩ f).ownBlock=some g->H<=g/\g<c:=by
 have src:∀f g,(Raw.lR ⟨lf, .slice none 0 0,v1,v2,v3⟩ f).ownBlock=some g->(f=1/\H<=g/\g<a)\/(f=2/\a<=g/\g<b)\/(f=3/\b<=g/\g<c):=fun f g hg=>by
  rcases lH f 4 with h4|h4
  ·rcases vA h4 with rfl|rfl|rfl|rfl
   ·cases hg
   ·exact .inl ⟨rfl,k1 g hg⟩
   ·exact .inr (.inl ⟨rfl,k2 g hg⟩)
   ·exact .inr (.inr ⟨rfl,k3 g hg⟩)
  ·rw [Raw.ik _ h4]at hg;cases hg
 refine⟨⟨gV.of hl.symm (by rw [he];exact nR _ _ _ _) h1 h2 h3,fun f g hg=>?_,fun f f' g hg hg'=>?_⟩,fun f g hg=>?_⟩
 ·rcases src f g hg with h|h|h <;> omega
 ·rcases src f g hg with h|h|h <;> rcases src f' g hg' with h'|h'|h' <;> omega
 ·rcases src f g hg with h|h|h <;> omega
theorem ql {bb nb cap j:Nat} {rs:List Raw} {t:Tr} {r:Raw} {gb bl bc o:Nat} (h:Bd M w bb (.slice (some ⟨nb,0,none⟩) rs.length cap) rs t) (kP:rs[j]?=some r) (sx:t.nodes[j]?=some x) (hjl:j<rs.length) (hown:gV M w r x) (r9:r.bv = .slice (some ⟨gb,0,none⟩) bl bc)
  (hl:x.leaf=false) (h5:x.kids.length=5) (h4:x.keys.length=4) (hrow:vp x.buf) (hkr:0<=x.keys.getD 1 0/\x.keys.getD 1 0<=1099511627776) (hm:t.nodes.length<=1000000000000) (AA:x.buf.length=bl) (eo:(if bc=ic x.buf (x.keys.getD 1 0)then some (⟨gb,0,none⟩:Addr)else some ⟨gb,ic x.buf (x.keys.getD 1 0)*7,none⟩)=some ⟨gb,o,none⟩) :
  Calls Tryz.prog 119 #[.pointer (some ⟨bb,0,none⟩), .int .i64 (j:Int)] w fun e w'=>e = .returned (.tuple #[.int .i64 t.nodes.length, .int .i64 (x.keys.getD 1 0)]) /\
   kM M bb (dE bb (.slice (some ⟨nb,0,none⟩) rs.length cap) rs) w (cJ (jo t ⟨false,[],x.keys.drop 2,x.kids.drop 2,x.buf.drop (ic x.buf (x.keys.getD 1 0))⟩) j ⟨false,[],x.keys.take 1,x.kids.take 2,x.buf.take (ic x.buf (x.keys.getD 1 0))⟩) w':=by
 obtain⟨c0,k0,k1,k2,k3,k4,wG,Fe,hbl,hnl,vC⟩:=h.cells kP
 obtain⟨es,ec,hev⟩:=hown.aF.isSlice
 obtain⟨ks,kc,yh⟩:=hown.keys.isSlice
 obtain⟨ds,dc,Bl⟩:=hown.kids.isSlice
 have hok:=hown.keys
 have sN:=hown.kids
 have oI:=hown.buf
 rw [yh]at hok
 rw [Bl]at sN
 rw [r9]at oI
 obtain⟨kb,Ss,hks,-,-⟩:=World.ownsRow.form hok.row af
 injection hks with Tb _ Ta
 subst Tb Ta
 obtain⟨db,OI,hds,-,-⟩:=World.ownsRow.form sN.row af
 injection hds with Tu _ Tt
 subst Tu Tt
 have hkc:4<=kc:=by obtain⟨_,_,hv,h1,_⟩:=hok.at af;injection hv with _ _ hv3;omega
 have hdc:5<=dc:=by obtain⟨_,_,hv,h1,_⟩:=sN.at af;injection hv with _ _ hv3;omega
 have hko:=h.off j r 1 kb kP (by show r.kv.ownBlock=_;rw [yh];rfl)
 have Tv:=h.off j r 2 db kP (by show r.dv.ownBlock=_;rw [Bl];rfl)
 have yj:∀g,(Value.slice (some ⟨gb,0,none⟩) bl bc).ownBlock=some g->g≠bb/\g≠nb:=fun g hg=>by
  have:=h.off j r 3 g kP (by show r.bv.ownBlock=_;rw [r9];exact hg)
  exact⟨this.1,fun e=>this.2 (by rw [e];rfl)⟩
 have hk2:kb≠nb:=fun e=>hko.2 (by rw [e];rfl)
 have hd2:db≠nb:=fun e=>Tv.2 (by rw [e];rfl)
 have hkl:kb<w.heap.size:=(hok.lt kb rfl).2
 have zy:db<w.heap.size:=(sN.lt db rfl).2
 have hM:M<=w.heap.size:=by have:=(h.lt bb (.inl rfl)).1;omega
 rw [hown.leaf,hl]at k0
 rw [hev]at k1
 rw [yh,h4]at k2
 rw [Bl,h5]at k3
 rw [r9]at k4
 have iw:=fun w'=>dR (ab:=nb) (bp:=0) (n:=rs.length) (cap:=cap) (show (j:Int)=((j:Nat):Int) by rfl) hjl w'
 simp only [iX]at iw
 obtain⟨key,hy⟩:∃y,x.keys[1]?=some y:=⟨x.keys[1],by simp [h4]⟩
 have IJ:x.keys.getD 1 0=key:=by rw [List.getD_eq_getElem?_getD,hy];rfl
 obtain⟨_,_,_,Fa,-,Sy⟩:=gy.get (hok.at af) hy
 injection Fa with Fa _ Th
 subst Th
 injection Fa with Fa
 injection Fa with Tj Ti
 subst Tj Ti
 simp only [iX]at Sy
 rw [IJ]at hkr ⊢
 rw [IJ]at eo
 obtain⟨i,hi⟩:=bC (ic x.buf key)
 have hil:i<=x.buf.length:=by rw [<-hi];exact(ly hrow.1).1
 rw [hi]at eo ⊢
 obtain⟨W1,hW1⟩:=bR (w.alloc (.cells #[.bool false, .slice es x.aF.length ec, .slice (some ⟨kb,0,none⟩) 4 kc, .slice (some ⟨db,0,none⟩) 5 dc, .slice (some ⟨gb,0,none⟩) bl bc] 125))
 have hb1:ah w W1:=by rw [hW1];exact ag
 have hz1:W1.heap.size=w.heap.size+1:=by rw [hW1];simp
 have kx:W1.heap[w.heap.size]?=some (.cells #[.bool false, .slice es x.aF.length ec, .slice (some ⟨kb,0,none⟩) 4 kc, .slice (some ⟨db,0,none⟩) 5 dc, .slice (some ⟨gb,0,none⟩) bl bc] 125):=by rw [hW1];exact aq _ _ rfl
 have Bo:=h.below hb1 aI
 have hS1:nE (dE bb (.slice (some ⟨nb,0,none⟩) rs.length cap) rs) (dE bb (.slice (some ⟨nb,0,none⟩) rs.length cap) rs) w W1:=nE.of hb1 aI
 have HX:=hdd fun(W:World) (hT:aw (fun b=>b=bb\/b=nb) W1 W)=>(by
  have e1:W.heap[w.heap.size]?=_:=(hT.block _ af (by rintro(e|e) <;> omega)).trans kx
  have e2:W.heap[kb]?=w.heap[kb]?:=(hT.block kb af (by rintro(e|e);exact hko.1 e;exact hk2 e)).trans (hb1.block kb hkl)
  have e3:W.heap[db]?=w.heap[db]?:=(hT.block db af (by rintro(e|e);exact Tv.1 e;exact hd2 e)).trans (hb1.block db zy)
  have e4:∀g,(Value.slice (some ⟨gb,0,none⟩) bl bc).ownBlock=some g->W.heap[g]?=w.heap[g]?:=fun g hg=>(hT.block g (by have:=(oI.lt g hg).2;omega) (by rintro(e|e);exact(yj g hg).1 e;exact(yj g hg).2 e)).trans (hb1.block g (oI.lt g hg).2)
  refine⟨by simp [World.cell?,e1],by simp [World.cell?,e1],by simp [World.cell?,e1],by simp [World.cell?,e1],by rw [World.cell?_of_block (a:=⟨kb,1,none⟩) e2];exact Sy,hok.block fun g hg=>?_,sN.block fun g hg=>?_,oI.block e4⟩
  ·injection hg with hg;subst hg;exact e2
  ·injection hg with hg;subst hg;exact e3 :
  W.cell? ⟨w.heap.size,0,none⟩=some (.bool false)/\W.cell? ⟨w.heap.size,2,none⟩=some (.slice (some ⟨kb,0,none⟩) 4 kc)/\W.cell? ⟨w.heap.size,3,none⟩=some (.slice (some ⟨db,0,none⟩) 5 dc)/\W.cell? ⟨w.heap.size,4,none⟩=some (Value.slice (some ⟨gb,0,none⟩) bl bc)/\W.cell? ⟨kb,1,none⟩=some (.int .i64 key) /\
  bw M W (.slice (some ⟨kb,0,none⟩) x.keys.length kc) x.keys/\bw M W (.slice (some ⟨db,0,none⟩) x.kids.length dc) x.kids/\au M W (Value.slice (some ⟨gb,0,none⟩) bl bc) x.buf)
 have HC:=hdd fun(W:World) (hT:aw (fun b=>b=bb\/b=nb) W1 W)=>(by
  obtain⟨-,-,-,-,-,o1,o2,o3⟩:=HX.out W hT
  have a1:=rU (i:=2) o1 af af 2 (fun _=>rfl)
  have a2:=rT (i:=1) o1 af af
  have b1:=rU (i:=2) o2 af af 2 (fun _=>rfl)
  have b2:=rT (i:=2) o2 af af
  rw [h4]at a1
  rw [h5]at b1
  have hbc:x.buf.length<=bc:=by obtain⟨_,_,hv,h1,_⟩:=o3.at (by have:=hrow.2.2.2;omega);injection hv with _ _ hv3;omega
  rw [<-AA]at o3 ⊢
  have c1:=Dj (i:=i) o3 (by have:=hrow.2.2.2;omega) hil o (fun h=>by
   by_cases hb:bc=i
   ·omega
   ·rw [ai hb]at eo;injection eo with eo;injection eo with _ hs2;exact hs2.symm)
  have c2:=Dh (i:=i) o3 (by have:=hrow.2.2.2;omega) hil
  exact⟨dV a1,dV b1,eV c1,dV a2,dV b2,eV c2⟩ :
  Calls Tryz.prog 90 #[.slice (some ⟨kb,2,none⟩) (4-2) (kc-2)] W (fun e w'=>∃v',e = .returned v'/\w'.ownsRow W.heap.size 3 1 v' (x.keys.drop 2).length ((x.keys.drop 2).flatMap bW)/\ah W w') /\
  Calls Tryz.prog 90 #[.slice (some ⟨db,2,none⟩) (5-2) (dc-2)] W (fun e w'=>∃v',e = .returned v'/\w'.ownsRow W.heap.size 3 1 v' (x.kids.drop 2).length ((x.kids.drop 2).flatMap bW)/\ah W w') /\
  Calls Tryz.prog 89 #[.slice (some ⟨gb,o,none⟩) (bl-i) (bc-i)] W (fun e w'=>∃v',e = .returned v'/\w'.ownsRow W.heap.size 107 7 v' (x.buf.drop i).length ((x.buf.drop i).flatMap bh)/\ah W w') /\
  Calls Tryz.prog 90 #[.slice (some ⟨kb,0,none⟩) 1 kc] W (fun e w'=>∃v',e = .returned v'/\w'.ownsRow W.heap.size 3 1 v' (x.keys.take 1).length ((x.keys.take 1).flatMap bW)/\ah W w') /\
  Calls Tryz.prog 90 #[.slice (some ⟨db,0,none⟩) 2 dc] W (fun e w'=>∃v',e = .returned v'/\w'.ownsRow W.heap.size 3 1 v' (x.kids.take 2).length ((x.kids.take 2).flatMap bW)/\ah W w') /\
  Calls Tryz.prog 89 #[.slice (some ⟨gb,0,none⟩) i bc] W (fun e w'=>∃v',e = .returned v'/\w'.ownsRow W.heap.size 107 7 v' (x.buf.take i).length ((x.buf.take i).flatMap bh)/\ah W w'))
 have Ig:=hdd fun(W:World) (hT:aw (fun b=>b=bb\/b=nb) W1 W)=>(by
  have:=Cz (x:=key) ((HX.out W hT).2.2.2.2.2.2.2.at (by have:=hrow.2.2.2;omega)) hrow.1 (fun e he=>by have:=hrow.2.2.1 e he;omega)
  rw [hi]at this
  exact this:Calls Tryz.prog 117 #[.slice (some ⟨gb,0,none⟩) bl bc, .int .i64 key] W fun r w'=>r = .returned (.tuple #[.int .i64 (i:Int), .bool (rp x.buf key)])/\ah W w')
 obtain⟨hs,GI⟩:=bC (rp x.buf key)
 rw [GI]at Ig
 clear GI
 obtain⟨KD,TS⟩:=bC (x.keys.drop 2)
 obtain⟨KT,TR⟩:=bC (x.keys.take 1)
 obtain⟨DD,TU⟩:=bC (x.kids.drop 2)
 obtain⟨DT,TT⟩:=bC (x.kids.take 2)
 obtain⟨BD,TW⟩:=bC (x.buf.drop i)
 obtain⟨BT,TV⟩:=bC (x.buf.take i)
 rw [TS,TR,TU,TT,TW,TV]at HC
 rw [TS,TR,TU,TT,TW,TV]
 clear TS TR TU TT TW TV
 obtain⟨i0,z0,hi0,hz0,D4,DZ,DY⟩:=pQ
 have hlen:rs.length=t.nodes.length:=h.len
 have hrl:rs.length<=1000000000000:=af
 have fc:=hdd (aO Bo (aO hS1 (aO kP sx)))
 have hg2:¬(kc=2):=af
 have hg3:(2:Int)<=(kc:Int):=af
 have hg4:(1:Int)<=(kc:Int):=af
 have Tm:¬(dc=2):=af
 have WT:(2:Int)<=(dc:Int):=af
 have hbc:bl<=bc:=by
  rw [AA]at hil
  have:=hrow.2.2.2
  obtain⟨_,_,hv,h1,_⟩:=oI.at af
  injection hv with _ _ hv3;omega
 have agJ:bl<=20:=by rw [<-AA];exact hrow.2.2.2
 rw [AA]at hil
 have o8:(i:Int)<=(bl:Int):=af
 have J5:(i:Int)<=(bc:Int):=af
 have TG:i<=bc:=af
 clear AA
 have Ed:bb<W1.heap.size:=af
 have WD:nb<W1.heap.size:=af
 have c0':W1.cell? ⟨bb,0,none⟩=some (.slice (some ⟨nb,0,none⟩) rs.length cap):=(hb1.cell (p:=⟨bb,0,none⟩) hbl).trans c0
 obtain⟨q0,q2,q3,q4,qk,-⟩:=HX.out W1 (aw.refl _ _)
 clear h hown hev yh Bl r9 hl hlen hok sN oI Bo hS1 hko Tv yj kP sx IJ hy Sy hrow hi hkr
 go_enter Tryz.func119,Tryz.ntmps119
 go_upto_region 2 with (fail)
 rw [<-hW1]
 clear hW1 k0 k1 k2 k3 k4 wG c0 kx
 have iK:=hdd fun(W:World) (hT:aw (fun b=>b=nb) W1 W)=>(by
  obtain⟨-,g2,g3,g4,-⟩:=HX.out W (hT.mono fun _ _ h=> .inr h)
  exact⟨(hT.cell Ed vC 0).trans c0',g2,g3,g4⟩:W.cell? ⟨bb,0,none⟩=some (.slice (some ⟨nb,0,none⟩) rs.length cap)/\W.cell? ⟨w.heap.size,2,none⟩=some (.slice (some ⟨kb,0,none⟩) 4 kc)/\W.cell? ⟨w.heap.size,3,none⟩=some (.slice (some ⟨db,0,none⟩) 5 dc)/\W.cell? ⟨w.heap.size,4,none⟩=some (Value.slice (some ⟨gb,0,none⟩) bl bc))
 clear c0'
 go_wp2_with ((go_at_call 117;(with_reducible refine(Ig.out _ (aw.refl _ _)).mono ?_);rintro e w2 ⟨rfl,hb2⟩))
 clear q0 q2 q3 q4 qk
 have T2:aw (fun b=>b=nb) W1 w2:=aw.of hb2 aI
 have T0:aw (fun b=>b=nb) W1 w2.drew:=T2.drew
 refine bH [(0,1),(1,1),(2,1),(3,1),(4,1),(5,0),(6,1),(7,0),(8,1),(9,1),(11,1),(12,0),(13,1),(14,1),(16,1),(17,0),(18,1),(19,1),(10,2),(15,2),(20,2),(21,1),(22,2),(23,2),(24,1),(25,1),(26,1),(27,3)] 27 (fun W=>W.cell? ⟨bb,0,none⟩=some (.slice (some ⟨nb,0,none⟩) rs.length cap)/\W.cell? ⟨w.heap.size,2,none⟩=some (.slice (some ⟨kb,0,none⟩) 4 kc)/\W.cell? ⟨w.heap.size,3,none⟩=some (.slice (some ⟨db,0,none⟩) 5 dc)/\W.cell? ⟨w.heap.size,4,none⟩=some (Value.slice (some ⟨gb,0,none⟩) bl bc)) cv cv (iK.out _ T0) ?_
 (simp only [bF,List.filterMap_cons,List.filterMap_nil,List.getElem?_cons_zero,List.getElem?_cons_succ,Option.map_some])
 (repeat first|refine aV ?_|refine aU ?_)
 refine aM rfl (fun K hK=>?_)
 go_simp
 (with_reducible refine(HC.out _ (T0.mono fun _ _ h=> .inr h)).1.mono ?_);rintro e w3 ⟨v3,rfl,kW,hb3⟩
 obtain⟨s3,c3,rfl⟩:=(bw.mk kW).isSlice
 have T3:aw (fun b=>b=nb) W1 w3:=T0.trans (aw.of hb3 aI)
 go_simp
 refine hK _ _ (iK.out _ T3) ?_
 clear hK K
 (repeat first|refine aV ?_|refine aU ?_)
 refine aM rfl (fun K hK=>?_)
 go_simp
 (with_reducible refine(HC.out _ (T3.mono fun _ _ h=> .inr h)).2.1.mono ?_);rintro e w4 ⟨v4,rfl,ye,hb4⟩
 obtain⟨s4,c4,rfl⟩:=(bw.mk ye).isSlice
 have T4:aw (fun b=>b=nb) W1 w4:=T3.trans (aw.of hb4 aI)
 go_simp
 refine hK _ _ (iK.out _ T4) ?_
 clear hK K
 (repeat first|refine aV ?_|refine aU ?_)
 refine aM rfl (fun K hK=>?_)
 go_simp
 (with_reducible refine(HC.out _ (T4.mono fun _ _ h=> .inr h)).2.2.1.mono ?_);rintro e w5 ⟨v5,rfl,iD,cz⟩
 obtain⟨s5,c5,rfl⟩:=(au.mk iD).isSlice
 have T5:aw (fun b=>b=nb) W1 w5:=T4.trans (aw.of cz aI)
 go_simp
 refine hK _ _ (iK.out _ T5) ?_
 clear hK K
 (repeat first|refine aV ?_|refine aU ?_)
 refine aM rfl (fun K hK=>?_)
 go_simp
 obtain⟨W6,tX⟩:=bR (w5.alloc (.cells #[.bool false, .slice none 0 0, .slice s3 KD.length c3, .slice s4 DD.length c4, .slice s5 BD.length c5] 125))
 have jt:ah w5 W6:=by rw [tX];exact ag
 have k6:W6.heap[w5.heap.size]?=some (.cells #[.bool false, .slice none 0 0, .slice s3 KD.length c3, .slice s4 DD.length c4, .slice s5 BD.length c5] 125):=by rw [tX];exact aq _ _ rfl
 have uE:W6.heap.size=w5.heap.size+1:=by rw [tX];simp
 rw [<-tX]
 have T6:aw (fun b=>b=nb) W1 W6:=T5.trans (aw.of jt aI)
 refine hK _ _ (iK.out _ T6) ?_
 clear hK K tX
 have z2:W1.heap.size<=w2.heap.size:=T2.size
 have z3:w2.heap.size<=w3.heap.size:=hb3.size
 have z4:w3.heap.size<=w4.heap.size:=hb4.size
 have z5:w4.heap.size<=w5.heap.size:=cz.size
 have B3:ah w2 w3:=⟨hb3.os,hb3.tape,hb3.output,hb3.size,hb3.block⟩
 have B6:ah W1 W6:=Below.trans' (Below.trans' (Below.trans' (Below.trans' hb2 B3 z2) hb4 af) cz af) jt af
 have xn:=(fc.out.1.below B6 aI).row
 refine aM rfl (fun K hK=>?_)
 refine wp_append_lies _ (.tmp 108) (.tmp 125) 25 rfl M 125 i0 z0 5 104 Tryz.underlying25 hi0 hz0 D4 DZ DY aY _ rs.length _ rfl xn ⟨w5.heap.size,0,none⟩ 1 1 (cM ⟨false, .slice none 0 0, .slice s3 KD.length c3, .slice s4 DD.length c4, .slice s5 BD.length c5⟩) rfl rfl (World.news_of_block k6) ?hone aY (by unfold maxLen;omega) af af W6.heap.size rfl ?_
 case hone=>
  intro u hu
  simp [cM]at hu
  rcases hu with rfl|rfl|rfl|rfl|rfl <;> rfl
 intro g cap' w7 xm uI Rf MG
 have T7:aw (fun b=>b=nb) W1 w7:=aw.grown T6 uI (fun k hk=> .inl (by injection hk with hk;exact hk.symm))
 refine hK _ _ (iK.out _ T7) ?_
 clear hK K
 have vY:g=nb\/g=W6.heap.size:=Rf.imp (fun h=>(dt h).symm) id
 have DX:=uI.size
 have uC:∀b,W1.heap.size<=b->b<w5.heap.size->w7.heap[b]?=w5.heap[b]?:=fun b h1 h2=>(uI.block b af (fun e=>by have e:b=nb:=dt e;omega)).trans (jt.block b h2)
 have p3:∀g,(Value.slice s3 KD.length c3).ownBlock=some g->w2.heap.size<=g/\g<w3.heap.size:=fun g hg=>(kW.lt g hg)
 have p4:∀g,(Value.slice s4 DD.length c4).ownBlock=some g->w3.heap.size<=g/\g<w4.heap.size:=fun g hg=>ye.lt g hg
 have p5:∀g,(Value.slice s5 BD.length c5).ownBlock=some g->w4.heap.size<=g/\g<w5.heap.size:=fun g hg=>iD.lt g hg
 have o3:w7.ownsRow M 3 1 (.slice s3 KD.length c3) KD.length (KD.flatMap bW):=bY (cP kW (by show M<=w2.heap.size;omega)) fun b hb=>by
  have:=p3 b hb
  exact(uC b af af).trans ((cz.block b af).trans (hb4.block b af))
 have o4:w7.ownsRow M 3 1 (.slice s4 DD.length c4) DD.length (DD.flatMap bW):=bY (cP ye af) fun b hb=>by
  have:=p4 b hb
  exact(uC b af af).trans (cz.block b af)
 have o5:w7.ownsRow M 107 7 (.slice s5 BD.length c5) BD.length (BD.flatMap bh):=bY (cP iD af) fun b hb=>by
  have:=p5 b hb
  exact uC b af af
 obtain⟨yi,WU⟩:=Cs (M:=M) (H:=W1.heap.size) (w:=w7) (lf:=false) (x:=⟨false,[],KD,DD,BD⟩) (v1:= .slice s3 KD.length c3) (v2:= .slice s4 DD.length c4) (v3:= .slice s5 BD.length c5) (a:=w3.heap.size) (b:=w4.heap.size) (c:=w5.heap.size) rfl rfl o3 o4 o5 (fun g hg=>by have:=p3 g hg;omega) p4 p5 af z4 z5 af
 have iZ:=hdd (fc.out.1.push (w1:=w7) (kU:= .slice (some ⟨g,0,none⟩) (rs.length+1) cap') (T7.mono fun b _ h=>by rw [h];rfl) xm (fun b hb=>by
   have hb:g=b:=dt hb
   subst hb
   rcases vY with e|e
   ·left;rw [e];rfl
   ·right;rw [e];omega) yi (fun f b hb e=>by
   have e:g=b:=dt e
   have:=WU f b hb
   rcases vY with e'|e' <;> omega))
 obtain⟨d0,-⟩:=iK.out _ T7
 have d1:w7.frozen? ⟨bb,0,none⟩=false:=(T7.frozen Ed vC 0).trans ((hb1.frozen (p:=⟨bb,0,none⟩) hbl).trans (Fe 0))
 (repeat first|refine aV ?_|refine aU ?_)
 refine bn rfl (fun K hK=>?_)
 go_simp
 refine hK _ _ ?_
 clear hK K
 refine cj ?_
 have T8:aw (fun b=>b=bb\/b=nb) W1 (w7.setCell ⟨bb,0,none⟩ (.slice (some ⟨g,0,none⟩) (rs.length+1) cap')):=(T7.mono fun _ _ h=> .inr h).setCell (.inl (.inl rfl)) _
 generalize w7.setCell ⟨bb,0,none⟩ (.slice (some ⟨g,0,none⟩) (rs.length+1) cap')=W8 at iZ T8 ⊢
 have hgX:w.heap.size≠g:=by
  rcases vY with e|e
  ·rw [e];omega
  ·omega
 have Oy:∃rn:Raw,(⟨false, .slice none 0 0, .slice s3 KD.length c3, .slice s4 DD.length c4, .slice s5 BD.length c5⟩:Raw)=rn:=⟨_,rfl⟩
 obtain⟨rn,Oy⟩:=Oy
 rw [Oy]at iZ
 clear iK T0 T2 T3 T4 T5 T6 T7 hb2 hb3 hb4 cz kW ye iD jt B3 B6 xn k6 xm uI Rf MG d0 d1 uC p3 p4 p5 o3 o4 o5 yi WU Oy z2 z3 z4 z5 uE DX vY
 have D8:(rs++[rn])[j]?=some r:=by rw [zW hjl];exact fc.out.2.2.1
 have OB:(rs++[rn]).length=rs.length+1:=bt
 have hcells:=iZ.out.1
 rw [<-OB]at hcells
 obtain⟨e0,-,-,-,-,-,Ru,-,e2,e3,e4⟩:=hcells.cells D8
 obtain⟨f0,f1,f2,f3,f4,-⟩:=hcells.cells D8 |>.2
 rw [OB]at e0
 have ML:=fun w'=>dR (ab:=g) (bp:=0) (n:=rs.length+1) (cap:=cap') (show (j:Int)=((j:Nat):Int) by rfl) af w'
 simp only [iX]at ML
 have iK:=hdd fun(W:World) (hT:ah W8 W)=>(by
  obtain⟨-,g2,g3,g4,-⟩:=HX.out W (T8.trans (aw.of hT aI))
  exact⟨(hT.cell (p:=⟨bb,0,none⟩) e2).trans e0,g2,g3,g4⟩:W.cell? ⟨bb,0,none⟩=some (.slice (some ⟨g,0,none⟩) (rs.length+1) cap')/\W.cell? ⟨w.heap.size,2,none⟩=some (.slice (some ⟨kb,0,none⟩) 4 kc)/\W.cell? ⟨w.heap.size,3,none⟩=some (.slice (some ⟨db,0,none⟩) 5 dc)/\W.cell? ⟨w.heap.size,4,none⟩=some (Value.slice (some ⟨gb,0,none⟩) bl bc))
 have T0:ah W8 W8.drew:=(aL _ _).drew
 have UN:=hdd Ru
 have HE5:=hdd (aO f0 (aO f1 (aO f2 (aO f3 f4))))
 have Yq:=hdd hcells
 have aak:IntKind.i64.wrap (1:Int)=1:=IntWalk.i64_in _ af
 clear hcells e0 Ru iw f0 f1 f2 f3 f4
 go_wp2_with fail
 refine bH [(0,1),(1,1),(2,1),(3,1),(4,0),(5,1),(6,1),(7,0),(8,1),(9,1),(10,1),(12,1),(13,0),(14,1),(15,1),(17,1),(18,0),(19,1),(20,1),(11,2),(16,2),(21,2),(22,1),(23,1),(24,3)] 24 (fun W=>W.cell? ⟨bb,0,none⟩=some (.slice (some ⟨g,0,none⟩) (rs.length+1) cap')/\W.cell? ⟨w.heap.size,2,none⟩=some (.slice (some ⟨kb,0,none⟩) 4 kc)/\W.cell? ⟨w.heap.size,3,none⟩=some (.slice (some ⟨db,0,none⟩) 5 dc)/\W.cell? ⟨w.heap.size,4,none⟩=some (Value.slice (some ⟨gb,0,none⟩) bl bc)) cv cv (iK.out _ T0) ?_
 (simp only [bF,List.filterMap_cons,List.filterMap_nil,List.getElem?_cons_zero,List.getElem?_cons_succ,Option.map_some])
 (repeat first|refine aV ?_|refine aU ?_)
 refine aM rfl (fun K hK=>?_)
 go_simp
 (with_reducible refine(HC.out _ (T8.trans (aw.of T0 aI))).2.2.2.1.mono ?_);rintro e w3 ⟨v3,rfl,kW,hb3⟩
 obtain⟨s3,c3,rfl⟩:=(bw.mk kW).isSlice
 have B3:ah W8 w3:=Below.trans' T0 hb3 aI
 go_simp
 refine hK _ _ (iK.out _ B3) ?_
 clear hK K
 (repeat first|refine aV ?_|refine aU ?_)
 refine aM rfl (fun K hK=>?_)
 go_simp
 (with_reducible refine(HC.out _ (T8.trans (aw.of B3 aI))).2.2.2.2.1.mono ?_);rintro e w4 ⟨v4,rfl,ye,hb4⟩
 obtain⟨s4,c4,rfl⟩:=(bw.mk ye).isSlice
 have B4:ah W8 w4:=Below.trans' B3 hb4 B3.size
 go_simp
 refine hK _ _ (iK.out _ B4) ?_
 clear hK K
 (repeat first|refine aV ?_|refine aU ?_)
 refine aM rfl (fun K hK=>?_)
 go_simp
 (with_reducible refine(HC.out _ (T8.trans (aw.of B4 aI))).2.2.2.2.2.mono ?_);rintro e w5 ⟨v5,rfl,iD,cz⟩
 obtain⟨s5,c5,rfl⟩:=(au.mk iD).isSlice
 have B5:ah W8 w5:=Below.trans' B4 cz B4.size
 go_simp
 refine hK _ _ (iK.out _ B5) ?_
 clear hK K
 have DW:=T8.size
 have z3:W8.heap.size<=w3.heap.size:=hb3.size
 have z4:w3.heap.size<=w4.heap.size:=hb4.size
 have z5:w4.heap.size<=w5.heap.size:=cz.size
 have p3:∀g,(Value.slice s3 KT.length c3).ownBlock=some g->W8.heap.size<=g/\g<w3.heap.size:=fun g hg=>(kW.lt g hg)
 have p4:∀g,(Value.slice s4 DT.length c4).ownBlock=some g->w3.heap.size<=g/\g<w4.heap.size:=fun g hg=>ye.lt g hg
 have p5:∀g,(Value.slice s5 BT.length c5).ownBlock=some g->w4.heap.size<=g/\g<w5.heap.size:=fun g hg=>iD.lt g hg
 have o3:w5.ownsRow M 3 1 (.slice s3 KT.length c3) KT.length (KT.flatMap bW):=bY (cP kW (by show M<=W8.heap.size;omega)) fun b hb=>by
  have:=p3 b hb
  exact(cz.block b af).trans (hb4.block b af)
 have o4:w5.ownsRow M 3 1 (.slice s4 DT.length c4) DT.length (DT.flatMap bW):=bY (cP ye af) fun b hb=>by
  have:=p4 b hb
  exact cz.block b af
 have o5:w5.ownsRow M 107 7 (.slice s5 BT.length c5) BT.length (BT.flatMap bh):=cP iD af
 obtain⟨yi,-⟩:=Cs (M:=M) (H:=W8.heap.size) (w:=w5) (lf:=false) (x:=⟨false,[],KT,DT,BT⟩) (v1:= .slice s3 KT.length c3) (v2:= .slice s4 DT.length c4) (v3:= .slice s5 BT.length c5) (a:=w3.heap.size) (b:=w4.heap.size) (c:=w5.heap.size) rfl rfl o3 o4 o5 p3 p4 p5 z3 z4 z5 aI
 have Uq:=hdd (Yq.out.whole (n:=j) rfl (by rw [OB];omega) B5 yi)
 obtain⟨m0,m1,m2,m3,m4⟩:=HE5.out
 have d0:=(B5.cell (p:=⟨g,_,none⟩) e3).trans m0
 have d1:=(B5.cell (p:=⟨g,_,none⟩) e3).trans m1
 have d2:=(B5.cell (p:=⟨g,_,none⟩) e3).trans m2
 have d3:=(B5.cell (p:=⟨g,_,none⟩) e3).trans m3
 have d4:=(B5.cell (p:=⟨g,_,none⟩) e3).trans m4
 have df:∀o,w5.frozen? ⟨g,o,none⟩=false:=fun o=>(B5.frozen (p:=⟨g,_,none⟩) e3).trans (UN.out _)
 have c9:=(iK.out _ B5).1
 clear m0 m1 m2 m3 m4 iK kW ye iD hb3 hb4 cz B3 B4 B5 p3 p4 p5 o3 o4 o5 yi T0 T8 HC HX Ig
 (repeat first|refine aV ?_|refine aU ?_)
 refine bn rfl (fun K hK=>?_)
 go_simp
 refine hK _ _ ?_
 clear hK K
 refine cj ?_
 have f0:(((((w5.setCell ⟨g,j*5,none⟩ (.bool false)).setCell ⟨g,j*5+1,none⟩ (.slice none 0 0)).setCell ⟨g,j*5+2,none⟩ (.slice s3 KT.length c3)).setCell ⟨g,j*5+3,none⟩ (.slice s4 DT.length c4)).setCell ⟨g,j*5+4,none⟩ (.slice s5 BT.length c5)).cell? ⟨bb,0,none⟩=some (.slice (some ⟨g,0,none⟩) (rs.length+1) cap'):=by
  rw [World.cell?_of_block (a:=⟨bb,0,none⟩) (lF e4)];exact c9
 generalize ((((w5.setCell ⟨g,j*5,none⟩ (.bool false)).setCell ⟨g,j*5+1,none⟩ (.slice none 0 0)).setCell ⟨g,j*5+2,none⟩ (.slice s3 KT.length c3)).setCell ⟨g,j*5+3,none⟩ (.slice s4 DT.length c4)).setCell ⟨g,j*5+4,none⟩ (.slice s5 BT.length c5)=WA at Uq f0 ⊢
 clear d0 d1 d2 d3 d4 df c9
 have hw0:IntKind.i64.wrap ((rs.length:Int)+1-1)=(rs.length:Int)+1-1:=IntWalk.i64_in _ af
 have hw1:IntKind.i64.wrap ((rs.length:Int)+1-1)=(rs.length:Int):=by rw [hw0];omega
 clear hw0
 have hlen:rs.length=t.nodes.length:=fc.out.1.len
 go_wp2
 go_ret2
 exact⟨rfl,_,_,Uq.out.1.below (show ah WA _ from ag) aI,((fc.out.2.1.trans iZ.out.2).trans Uq.out.2).trans (nE.of (show ah WA _ from ag) aI)⟩
end
section
set_option maxRecDepth 100000
set_option maxHeartbeats 6000000
theorem xI {M:Nat} {w:World} {bb nb cap j:Nat} {rs:List Raw} {t:Tr} {x:Nd} {r:Raw} (h:Bd M w bb (.slice (some ⟨nb,0,none⟩) rs.length cap) rs t) (kP:rs[j]?=some r) (sx:t.nodes[j]?=some x) (hjl:j<rs.length) (hown:gV M w r x) (r9:r.bv = .slice none 0 0)
  (hl:x.leaf=false) (h5:x.kids.length=5) (h4:x.keys.length=4) (hrow:vp x.buf) (hkr:0<=x.keys.getD 1 0/\x.keys.getD 1 0<=1099511627776) (hm:t.nodes.length<=1000000000000) (AA:x.buf=[]) :
  Calls Tryz.prog 119 #[.pointer (some ⟨bb,0,none⟩), .int .i64 (j:Int)] w fun e w'=>e = .returned (.tuple #[.int .i64 t.nodes.length, .int .i64 (x.keys.getD 1 0)]) /\
   kM M bb (dE bb (.slice (some ⟨nb,0,none⟩) rs.length cap) rs) w (cJ (jo t ⟨false,[],x.keys.drop 2,x.kids.drop 2,x.buf.drop (ic x.buf (x.keys.getD 1 0))⟩) j ⟨false,[],x.keys.take 1,x.kids.take 2,x.buf.take (ic x.buf (x.keys.getD 1 0))⟩) w':=by
 obtain⟨c0,k0,k1,k2,k3,k4,wG,Fe,hbl,hnl,vC⟩:=h.cells kP
 obtain⟨es,ec,hev⟩:=hown.aF.isSlice
 obtain⟨ks,kc,yh⟩:=hown.keys.isSlice
 obtain⟨ds,dc,Bl⟩:=hown.kids.isSlice
 have hok:=hown.keys
 have sN:=hown.kids
 have oI:=hown.buf
 rw [yh]at hok
 rw [Bl]at sN
 rw [r9]at oI
 obtain⟨kb,Ss,hks,-,-⟩:=World.ownsRow.form hok.row af
 injection hks with Tb _ Ta
 subst Tb Ta
 obtain⟨db,OI,hds,-,-⟩:=World.ownsRow.form sN.row af
 injection hds with Tu _ Tt
 subst Tu Tt
 have hkc:4<=kc:=by obtain⟨_,_,hv,h1,_⟩:=hok.at af;injection hv with _ _ hv3;omega
 have hdc:5<=dc:=by obtain⟨_,_,hv,h1,_⟩:=sN.at af;injection hv with _ _ hv3;omega
 have hko:=h.off j r 1 kb kP (by show r.kv.ownBlock=_;rw [yh];rfl)
 have Tv:=h.off j r 2 db kP (by show r.dv.ownBlock=_;rw [Bl];rfl)
 have yj:∀g,(Value.slice none 0 0).ownBlock=some g->g≠bb/\g≠nb:=fun g hg=>by
  have:=h.off j r 3 g kP (by show r.bv.ownBlock=_;rw [r9];exact hg)
  exact⟨this.1,fun e=>this.2 (by rw [e];rfl)⟩
 have hk2:kb≠nb:=fun e=>hko.2 (by rw [e];rfl)
 have hd2:db≠nb:=fun e=>Tv.2 (by rw [e];rfl)
 have hkl:kb<w.heap.size:=(hok.lt kb rfl).2
 have zy:db<w.heap.size:=(sN.lt db rfl).2
 have hM:M<=w.heap.size:=by have:=(h.lt bb (.inl rfl)).1;omega
 rw [hown.leaf,hl]at k0
 rw [hev]at k1
 rw [yh,h4]at k2
 rw [Bl,h5]at k3
 rw [r9]at k4
 have iw:=fun w'=>dR (ab:=nb) (bp:=0) (n:=rs.length) (cap:=cap) (show (j:Int)=((j:Nat):Int) by rfl) hjl w'
 simp only [iX]at iw
 obtain⟨key,hy⟩:∃y,x.keys[1]?=some y:=⟨x.keys[1],by simp [h4]⟩
 have IJ:x.keys.getD 1 0=key:=by rw [List.getD_eq_getElem?_getD,hy];rfl
 obtain⟨_,_,_,Fa,-,Sy⟩:=gy.get (hok.at af) hy
 injection Fa with Fa _ Th
 subst Th
 injection Fa with Fa
 injection Fa with Tj Ti
 subst Tj Ti
 simp only [iX]at Sy
 rw [IJ]at hkr ⊢
 obtain⟨i,hi⟩:=bC (ic x.buf key)
 have hil:i<=x.buf.length:=by rw [<-hi];exact(ly hrow.1).1
 rw [hi]
 obtain⟨W1,hW1⟩:=bR (w.alloc (.cells #[.bool false, .slice es x.aF.length ec, .slice (some ⟨kb,0,none⟩) 4 kc, .slice (some ⟨db,0,none⟩) 5 dc, .slice none 0 0] 125))
 have hb1:ah w W1:=by rw [hW1];exact ag
 have hz1:W1.heap.size=w.heap.size+1:=by rw [hW1];simp
 have kx:W1.heap[w.heap.size]?=some (.cells #[.bool false, .slice es x.aF.length ec, .slice (some ⟨kb,0,none⟩) 4 kc, .slice (some ⟨db,0,none⟩) 5 dc, .slice none 0 0] 125):=by rw [hW1];exact aq _ _ rfl
 have Bo:=h.below hb1 aI
 have hS1:nE (dE bb (.slice (some ⟨nb,0,none⟩) rs.length cap) rs) (dE bb (.slice (some ⟨nb,0,none⟩) rs.length cap) rs) w W1:=nE.of hb1 aI
 have HX:=hdd fun(W:World) (hT:aw (fun b=>b=bb\/b=nb) W1 W)=>(by
  have e1:W.heap[w.heap.size]?=_:=(hT.block _ af (by rintro(e|e) <;> omega)).trans kx
  have e2:W.heap[kb]?=w.heap[kb]?:=(hT.block kb af (by rintro(e|e);exact hko.1 e;exact hk2 e)).trans (hb1.block kb hkl)
  have e3:W.heap[db]?=w.heap[db]?:=(hT.block db af (by rintro(e|e);exact Tv.1 e;exact hd2 e)).trans (hb1.block db zy)
  have e4:∀g,(Value.slice none 0 0).ownBlock=some g->W.heap[g]?=w.heap[g]?:=fun g hg=>(hT.block g (by have:=(oI.lt g hg).2;omega) (by rintro(e|e);exact(yj g hg).1 e;exact(yj g hg).2 e)).trans (hb1.block g (oI.lt g hg).2)
  refine⟨by simp [World.cell?,e1],by simp [World.cell?,e1],by simp [World.cell?,e1],by simp [World.cell?,e1],by rw [World.cell?_of_block (a:=⟨kb,1,none⟩) e2];exact Sy,hok.block fun g hg=>?_,sN.block fun g hg=>?_,oI.block e4⟩
  ·injection hg with hg;subst hg;exact e2
  ·injection hg with hg;subst hg;exact e3 :
  W.cell? ⟨w.heap.size,0,none⟩=some (.bool false)/\W.cell? ⟨w.heap.size,2,none⟩=some (.slice (some ⟨kb,0,none⟩) 4 kc)/\W.cell? ⟨w.heap.size,3,none⟩=some (.slice (some ⟨db,0,none⟩) 5 dc)/\W.cell? ⟨w.heap.size,4,none⟩=some (.slice none 0 0)/\W.cell? ⟨kb,1,none⟩=some (.int .i64 key) /\
  bw M W (.slice (some ⟨kb,0,none⟩) x.keys.length kc) x.keys/\bw M W (.slice (some ⟨db,0,none⟩) x.kids.length dc) x.kids/\au M W (.slice none 0 0) x.buf)
 have HC:=hdd fun(W:World) (hT:aw (fun b=>b=bb\/b=nb) W1 W)=>(by
  obtain⟨-,-,-,-,-,o1,o2,o3⟩:=HX.out W hT
  have a1:=rU (i:=2) o1 af af 2 (fun _=>rfl)
  have a2:=rT (i:=1) o1 af af
  have b1:=rU (i:=2) o2 af af 2 (fun _=>rfl)
  have b2:=rT (i:=2) o2 af af
  rw [h4]at a1
  rw [h5]at b1
  have c1:ft W (.slice none 0 0) (x.buf.drop i):=by rw [AA,List.drop_nil];exact dN.nil _ _ _ _
  have c2:ft W (.slice none 0 0) (x.buf.take i):=by rw [AA,List.take_nil];exact dN.nil _ _ _ _
  exact⟨dV a1,dV b1,eV c1,dV a2,dV b2,eV c2⟩ :
  Calls Tryz.prog 90 #[.slice (some ⟨kb,2,none⟩) (4-2) (kc-2)] W (fun e w'=>∃v',e = .returned v'/\w'.ownsRow W.heap.size 3 1 v' (x.keys.drop 2).length ((x.keys.drop 2).flatMap bW)/\ah W w') /\
  Calls Tryz.prog 90 #[.slice (some ⟨db,2,none⟩) (5-2) (dc-2)] W (fun e w'=>∃v',e = .returned v'/\w'.ownsRow W.heap.size 3 1 v' (x.kids.drop 2).length ((x.kids.drop 2).flatMap bW)/\ah W w') /\
  Calls Tryz.prog 89 #[.slice none 0 0] W (fun e w'=>∃v',e = .returned v'/\w'.ownsRow W.heap.size 107 7 v' (x.buf.drop i).length ((x.buf.drop i).flatMap bh)/\ah W w') /\
  Calls Tryz.prog 90 #[.slice (some ⟨kb,0,none⟩) 1 kc] W (fun e w'=>∃v',e = .returned v'/\w'.ownsRow W.heap.size 3 1 v' (x.keys.take 1).length ((x.keys.take 1).flatMap bW)/\ah W w') /\
  Calls Tryz.prog 90 #[.slice (some ⟨db,0,none⟩) 2 dc] W (fun e w'=>∃v',e = .returned v'/\w'.ownsRow W.heap.size 3 1 v' (x.kids.take 2).length ((x.kids.take 2).flatMap bW)/\ah W w') /\
  Calls Tryz.prog 89 #[.slice none 0 0] W (fun e w'=>∃v',e = .returned v'/\w'.ownsRow W.heap.size 107 7 v' (x.buf.take i).length ((x.buf.take i).flatMap bh)/\ah W w'))
 have Ig:=hdd fun(W:World) (hT:aw (fun b=>b=bb\/b=nb) W1 W)=>(by
  have:=Cz (x:=key) ((HX.out W hT).2.2.2.2.2.2.2.at (by have:=hrow.2.2.2;omega)) hrow.1 (fun e he=>by have:=hrow.2.2.1 e he;omega)
  rw [hi]at this
  exact this:Calls Tryz.prog 117 #[.slice none 0 0, .int .i64 key] W fun r w'=>r = .returned (.tuple #[.int .i64 (i:Int), .bool (rp x.buf key)])/\ah W w')
 obtain⟨hs,GI⟩:=bC (rp x.buf key)
 rw [GI]at Ig
 clear GI
 obtain⟨KD,TS⟩:=bC (x.keys.drop 2)
 obtain⟨KT,TR⟩:=bC (x.keys.take 1)
 obtain⟨DD,TU⟩:=bC (x.kids.drop 2)
 obtain⟨DT,TT⟩:=bC (x.kids.take 2)
 obtain⟨BD,TW⟩:=bC (x.buf.drop i)
 obtain⟨BT,TV⟩:=bC (x.buf.take i)
 rw [TS,TR,TU,TT,TW,TV]at HC
 rw [TS,TR,TU,TT,TW,TV]
 clear TS TR TU TT TW TV
 obtain⟨i0,z0,hi0,hz0,D4,DZ,DY⟩:=pQ
 have hlen:rs.length=t.nodes.length:=h.len
 have hrl:rs.length<=1000000000000:=af
 have fc:=hdd (aO Bo (aO hS1 (aO kP sx)))
 have hg2:¬(kc=2):=af
 have hg3:(2:Int)<=(kc:Int):=af
 have hg4:(1:Int)<=(kc:Int):=af
 have Tm:¬(dc=2):=af
 have WT:(2:Int)<=(dc:Int):=af
 have hi9:i=0:=by rw [AA]at hil;simpa using hil
 subst hi9
 clear AA hil
 have Ed:bb<W1.heap.size:=af
 have WD:nb<W1.heap.size:=af
 have c0':W1.cell? ⟨bb,0,none⟩=some (.slice (some ⟨nb,0,none⟩) rs.length cap):=(hb1.cell (p:=⟨bb,0,none⟩) hbl).trans c0
 obtain⟨q0,q2,q3,q4,qk,-⟩:=HX.out W1 (aw.refl _ _)
 clear h hown hev yh Bl r9 hl hlen hok sN oI Bo hS1 hko Tv yj kP sx IJ hy Sy hrow hi hkr
 go_enter Tryz.func119,Tryz.ntmps119
 go_upto_region 2 with (fail)
 rw [<-hW1]
 clear hW1 k0 k1 k2 k3 k4 wG c0 kx
 have iK:=hdd fun(W:World) (hT:aw (fun b=>b=nb) W1 W)=>(by
  obtain⟨-,g2,g3,g4,-⟩:=HX.out W (hT.mono fun _ _ h=> .inr h)
  exact⟨(hT.cell Ed vC 0).trans c0',g2,g3,g4⟩:W.cell? ⟨bb,0,none⟩=some (.slice (some ⟨nb,0,none⟩) rs.length cap)/\W.cell? ⟨w.heap.size,2,none⟩=some (.slice (some ⟨kb,0,none⟩) 4 kc)/\W.cell? ⟨w.heap.size,3,none⟩=some (.slice (some ⟨db,0,none⟩) 5 dc)/\W.cell? ⟨w.heap.size,4,none⟩=some (.slice none 0 0))
 clear c0'
 go_wp2_with ((go_at_call 117;(with_reducible refine(Ig.out _ (aw.refl _ _)).mono ?_);rintro e w2 ⟨rfl,hb2⟩))
 clear q0 q2 q3 q4 qk
 have T2:aw (fun b=>b=nb) W1 w2:=aw.of hb2 aI
 have T0:aw (fun b=>b=nb) W1 w2.drew:=T2.drew
 refine bH [(0,1),(1,1),(2,1),(3,1),(4,1),(5,0),(6,1),(7,0),(8,1),(9,1),(11,1),(12,0),(13,1),(14,1),(16,1),(17,0),(18,1),(19,1),(10,2),(15,2),(20,2),(21,1),(22,2),(23,2),(24,1),(25,1),(26,1),(27,3)] 27 (fun W=>W.cell? ⟨bb,0,none⟩=some (.slice (some ⟨nb,0,none⟩) rs.length cap)/\W.cell? ⟨w.heap.size,2,none⟩=some (.slice (some ⟨kb,0,none⟩) 4 kc)/\W.cell? ⟨w.heap.size,3,none⟩=some (.slice (some ⟨db,0,none⟩) 5 dc)/\W.cell? ⟨w.heap.size,4,none⟩=some (.slice none 0 0)) cv cv (iK.out _ T0) ?_
 (simp only [bF,List.filterMap_cons,List.filterMap_nil,List.getElem?_cons_zero,List.getElem?_cons_succ,Option.map_some])
 (repeat first|refine aV ?_|refine aU ?_)
 refine aM rfl (fun K hK=>?_)
 go_simp
 (with_reducible refine(HC.out _ (T0.mono fun _ _ h=> .inr h)).1.mono ?_);rintro e w3 ⟨v3,rfl,kW,hb3⟩
 obtain⟨s3,c3,rfl⟩:=(bw.mk kW).isSlice
 have T3:aw (fun b=>b=nb) W1 w3:=T0.trans (aw.of hb3 aI)
 go_simp
 refine hK _ _ (iK.out _ T3) ?_
 clear hK K
 (repeat first|refine aV ?_|refine aU ?_)
 refine aM rfl (fun K hK=>?_)
 go_simp
 (with_reducible refine(HC.out _ (T3.mono fun _ _ h=> .inr h)).2.1.mono ?_);rintro e w4 ⟨v4,rfl,ye,hb4⟩
 obtain⟨s4,c4,rfl⟩:=(bw.mk ye).isSlice
 have T4:aw (fun b=>b=nb) W1 w4:=T3.trans (aw.of hb4 aI)
 go_simp
 refine hK _ _ (iK.out _ T4) ?_
 clear hK K
 (repeat first|refine aV ?_|refine aU ?_)
 refine aM rfl (fun K hK=>?_)
 go_simp
 (with_reducible refine(HC.out _ (T4.mono fun _ _ h=> .inr h)).2.2.1.mono ?_);rintro e w5 ⟨v5,rfl,iD,cz⟩
 obtain⟨s5,c5,rfl⟩:=(au.mk iD).isSlice
 have T5:aw (fun b=>b=nb) W1 w5:=T4.trans (aw.of cz aI)
 go_simp
 refine hK _ _ (iK.out _ T5) ?_
 clear hK K
 (repeat first|refine aV ?_|refine aU ?_)
 refine aM rfl (fun K hK=>?_)
 go_simp
 obtain⟨W6,tX⟩:=bR (w5.alloc (.cells #[.bool false, .slice none 0 0, .slice s3 KD.length c3, .slice s4 DD.length c4, .slice s5 BD.length c5] 125))
 have jt:ah w5 W6:=by rw [tX];exact ag
 have k6:W6.heap[w5.heap.size]?=some (.cells #[.bool false, .slice none 0 0, .slice s3 KD.length c3, .slice s4 DD.length c4, .slice s5 BD.length c5] 125):=by rw [tX];exact aq _ _ rfl
 have uE:W6.heap.size=w5.heap.size+1:=by rw [tX];simp
 rw [<-tX]
 have T6:aw (fun b=>b=nb) W1 W6:=T5.trans (aw.of jt aI)
 refine hK _ _ (iK.out _ T6) ?_
 clear hK K tX
 have z2:W1.heap.size<=w2.heap.size:=T2.size
 have z3:w2.heap.size<=w3.heap.size:=hb3.size
 have z4:w3.heap.size<=w4.heap.size:=hb4.size
 have z5:w4.heap.size<=w5.heap.size:=cz.size
 have B3:ah w2 w3:=⟨hb3.os,hb3.tape,hb3.output,hb3.size,hb3.block⟩
 have B6:ah W1 W6:=Below.trans' (Below.trans' (Below.trans' (Below.trans' hb2 B3 z2) hb4 af) cz af) jt af
 have xn:=(fc.out.1.below B6 aI).row
 refine aM rfl (fun K hK=>?_)
 refine wp_append_lies _ (.tmp 108) (.tmp 125) 25 rfl M 125 i0 z0 5 104 Tryz.underlying25 hi0 hz0 D4 DZ DY aY _ rs.length _ rfl xn ⟨w5.heap.size,0,none⟩ 1 1 (cM ⟨false, .slice none 0 0, .slice s3 KD.length c3, .slice s4 DD.length c4, .slice s5 BD.length c5⟩) rfl rfl (World.news_of_block k6) ?hone aY (by unfold maxLen;omega) af af W6.heap.size rfl ?_
 case hone=>
  intro u hu
  simp [cM]at hu
  rcases hu with rfl|rfl|rfl|rfl|rfl <;> rfl
 intro g cap' w7 xm uI Rf MG
 have T7:aw (fun b=>b=nb) W1 w7:=aw.grown T6 uI (fun k hk=> .inl (by injection hk with hk;exact hk.symm))
 refine hK _ _ (iK.out _ T7) ?_
 clear hK K
 have vY:g=nb\/g=W6.heap.size:=Rf.imp (fun h=>(dt h).symm) id
 have DX:=uI.size
 have uC:∀b,W1.heap.size<=b->b<w5.heap.size->w7.heap[b]?=w5.heap[b]?:=fun b h1 h2=>(uI.block b af (fun e=>by have e:b=nb:=dt e;omega)).trans (jt.block b h2)
 have p3:∀g,(Value.slice s3 KD.length c3).ownBlock=some g->w2.heap.size<=g/\g<w3.heap.size:=fun g hg=>(kW.lt g hg)
 have p4:∀g,(Value.slice s4 DD.length c4).ownBlock=some g->w3.heap.size<=g/\g<w4.heap.size:=fun g hg=>ye.lt g hg
 have p5:∀g,(Value.slice s5 BD.length c5).ownBlock=some g->w4.heap.size<=g/\g<w5.heap.size:=fun g hg=>iD.lt g hg
 have o3:w7.ownsRow M 3 1 (.slice s3 KD.length c3) KD.length (KD.flatMap bW):=bY (cP kW (by show M<=w2.heap.size;omega)) fun b hb=>by
  have:=p3 b hb
  exact(uC b af af).trans ((cz.block b af).trans (hb4.block b af))
 have o4:w7.ownsRow M 3 1 (.slice s4 DD.length c4) DD.length (DD.flatMap bW):=bY (cP ye af) fun b hb=>by
  have:=p4 b hb
  exact(uC b af af).trans (cz.block b af)
 have o5:w7.ownsRow M 107 7 (.slice s5 BD.length c5) BD.length (BD.flatMap bh):=bY (cP iD af) fun b hb=>by
  have:=p5 b hb
  exact uC b af af
 obtain⟨yi,WU⟩:=Cs (M:=M) (H:=W1.heap.size) (w:=w7) (lf:=false) (x:=⟨false,[],KD,DD,BD⟩) (v1:= .slice s3 KD.length c3) (v2:= .slice s4 DD.length c4) (v3:= .slice s5 BD.length c5) (a:=w3.heap.size) (b:=w4.heap.size) (c:=w5.heap.size) rfl rfl o3 o4 o5 (fun g hg=>by have:=p3 g hg;omega) p4 p5 af z4 z5 af
 have iZ:=hdd (fc.out.1.push (w1:=w7) (kU:= .slice (some ⟨g,0,none⟩) (rs.length+1) cap') (T7.mono fun b _ h=>by rw [h];rfl) xm (fun b hb=>by
   have hb:g=b:=dt hb
   subst hb
   rcases vY with e|e
   ·left;rw [e];rfl
   ·right;rw [e];omega) yi (fun f b hb e=>by
   have e:g=b:=dt e
   have:=WU f b hb
   rcases vY with e'|e' <;> omega))
 obtain⟨d0,-⟩:=iK.out _ T7
 have d1:w7.frozen? ⟨bb,0,none⟩=false:=(T7.frozen Ed vC 0).trans ((hb1.frozen (p:=⟨bb,0,none⟩) hbl).trans (Fe 0))
 (repeat first|refine aV ?_|refine aU ?_)
 refine bn rfl (fun K hK=>?_)
 go_simp
 refine hK _ _ ?_
 clear hK K
 refine cj ?_
 have T8:aw (fun b=>b=bb\/b=nb) W1 (w7.setCell ⟨bb,0,none⟩ (.slice (some ⟨g,0,none⟩) (rs.length+1) cap')):=(T7.mono fun _ _ h=> .inr h).setCell (.inl (.inl rfl)) _
 generalize w7.setCell ⟨bb,0,none⟩ (.slice (some ⟨g,0,none⟩) (rs.length+1) cap')=W8 at iZ T8 ⊢
 have hgX:w.heap.size≠g:=by
  rcases vY with e|e
  ·rw [e];omega
  ·omega
 have Oy:∃rn:Raw,(⟨false, .slice none 0 0, .slice s3 KD.length c3, .slice s4 DD.length c4, .slice s5 BD.length c5⟩:Raw)=rn:=⟨_,rfl⟩
 obtain⟨rn,Oy⟩:=Oy
 rw [Oy]at iZ
 clear iK T0 T2 T3 T4 T5 T6 T7 hb2 hb3 hb4 cz kW ye iD jt B3 B6 xn k6 xm uI Rf MG d0 d1 uC p3 p4 p5 o3 o4 o5 yi WU Oy z2 z3 z4 z5 uE DX vY
 have D8:(rs++[rn])[j]?=some r:=by rw [zW hjl];exact fc.out.2.2.1
 have OB:(rs++[rn]).length=rs.length+1:=bt
 have hcells:=iZ.out.1
 rw [<-OB]at hcells
 obtain⟨e0,-,-,-,-,-,Ru,-,e2,e3,e4⟩:=hcells.cells D8
 obtain⟨f0,f1,f2,f3,f4,-⟩:=hcells.cells D8 |>.2
 rw [OB]at e0
 have ML:=fun w'=>dR (ab:=g) (bp:=0) (n:=rs.length+1) (cap:=cap') (show (j:Int)=((j:Nat):Int) by rfl) af w'
 simp only [iX]at ML
 have iK:=hdd fun(W:World) (hT:ah W8 W)=>(by
  obtain⟨-,g2,g3,g4,-⟩:=HX.out W (T8.trans (aw.of hT aI))
  exact⟨(hT.cell (p:=⟨bb,0,none⟩) e2).trans e0,g2,g3,g4⟩:W.cell? ⟨bb,0,none⟩=some (.slice (some ⟨g,0,none⟩) (rs.length+1) cap')/\W.cell? ⟨w.heap.size,2,none⟩=some (.slice (some ⟨kb,0,none⟩) 4 kc)/\W.cell? ⟨w.heap.size,3,none⟩=some (.slice (some ⟨db,0,none⟩) 5 dc)/\W.cell? ⟨w.heap.size,4,none⟩=some (.slice none 0 0))
 have T0:ah W8 W8.drew:=(aL _ _).drew
 have UN:=hdd Ru
 have HE5:=hdd (aO f0 (aO f1 (aO f2 (aO f3 f4))))
 have Yq:=hdd hcells
 have aak:IntKind.i64.wrap (1:Int)=1:=IntWalk.i64_in _ af
 clear hcells e0 Ru iw f0 f1 f2 f3 f4
 go_wp2_with fail
 refine bH [(0,1),(1,1),(2,1),(3,1),(4,0),(5,1),(6,1),(7,0),(8,1),(9,1),(10,1),(12,1),(13,0),(14,1),(15,1),(17,1),(18,0),(19,1),(20,1),(11,2),(16,2),(21,2),(22,1),(23,1),(24,3)] 24 (fun W=>W.cell? ⟨bb,0,none⟩=some (.slice (some ⟨g,0,none⟩) (rs.length+1) cap')/\W.cell? ⟨w.heap.size,2,none⟩=some (.slice (some ⟨kb,0,none⟩) 4 kc)/\W.cell? ⟨w.heap.size,3,none⟩=some (.slice (some ⟨db,0,none⟩) 5 dc)/\W.cell? ⟨w.heap.size,4,none⟩=some (.slice none 0 0)) cv cv (iK.out _ T0) ?_
 (simp only [bF,List.filterMap_cons,List.filterMap_nil,List.getElem?_cons_zero,List.getElem?_cons_succ,Option.map_some])
 (repeat first|refine aV ?_|refine aU ?_)
 refine aM rfl (fun K hK=>?_)
 go_simp
 (with_reducible refine(HC.out _ (T8.trans (aw.of T0 aI))).2.2.2.1.mono ?_);rintro e w3 ⟨v3,rfl,kW,hb3⟩
 obtain⟨s3,c3,rfl⟩:=(bw.mk kW).isSlice
 have B3:ah W8 w3:=Below.trans' T0 hb3 aI
 go_simp
 refine hK _ _ (iK.out _ B3) ?_
 clear hK K
 (repeat first|refine aV ?_|refine aU ?_)
 refine aM rfl (fun K hK=>?_)
 go_simp
 (with_reducible refine(HC.out _ (T8.trans (aw.of B3 aI))).2.2.2.2.1.mono ?_);rintro e w4 ⟨v4,rfl,ye,hb4⟩
 obtain⟨s4,c4,rfl⟩:=(bw.mk ye).isSlice
 have B4:ah W8 w4:=Below.trans' B3 hb4 B3.size
 go_simp
 refine hK _ _ (iK.out _ B4) ?_
 clear hK K
 (repeat first|refine aV ?_|refine aU ?_)
 refine aM rfl (fun K hK=>?_)
 go_simp
 (with_reducible refine(HC.out _ (T8.trans (aw.of B4 aI))).2.2.2.2.2.mono ?_);rintro e w5 ⟨v5,rfl,iD,cz⟩
 obtain⟨s5,c5,rfl⟩:=(au.mk iD).isSlice
 have B5:ah W8 w5:=Below.trans' B4 cz B4.size
 go_simp
 refine hK _ _ (iK.out _ B5) ?_
 clear hK K
 have DW:=T8.size
 have z3:W8.heap.size<=w3.heap.size:=hb3.size
 have z4:w3.heap.size<=w4.heap.size:=hb4.size
 have z5:w4.heap.size<=w5.heap.size:=cz.size
 have p3:∀g,(Value.slice s3 KT.length c3).ownBlock=some g->W8.heap.size<=g/\g<w3.heap.size:=fun g hg=>(kW.lt g hg)
 have p4:∀g,(Value.slice s4 DT.length c4).ownBlock=some g->w3.heap.size<=g/\g<w4.heap.size:=fun g hg=>ye.lt g hg
 have p5:∀g,(Value.slice s5 BT.length c5).ownBlock=some g->w4.heap.size<=g/\g<w5.heap.size:=fun g hg=>iD.lt g hg
 have o3:w5.ownsRow M 3 1 (.slice s3 KT.length c3) KT.length (KT.flatMap bW):=bY (cP kW (by show M<=W8.heap.size;omega)) fun b hb=>by
  have:=p3 b hb
  exact(cz.block b af).trans (hb4.block b af)
 have o4:w5.ownsRow M 3 1 (.slice s4 DT.length c4) DT.length (DT.flatMap bW):=bY (cP ye af) fun b hb=>by
  have:=p4 b hb
  exact cz.block b af
 have o5:w5.ownsRow M 107 7 (.slice s5 BT.length c5) BT.length (BT.flatMap bh):=cP iD af
 obtain⟨yi,-⟩:=Cs (M:=M) (H:=W8.heap.size) (w:=w5) (lf:=false) (x:=⟨false,[],KT,DT,BT⟩) (v1:= .slice s3 KT.length c3) (v2:= .slice s4 DT.length c4) (v3:= .slice s5 BT.length c5) (a:=w3.heap.size) (b:=w4.heap.size) (c:=w5.heap.size) rfl rfl o3 o4 o5 p3 p4 p5 z3 z4 z5 aI
 have Uq:=hdd (Yq.out.whole (n:=j) rfl (by rw [OB];omega) B5 yi)
 obtain⟨m0,m1,m2,m3,m4⟩:=HE5.out
 have d0:=(B5.cell (p:=⟨g,_,none⟩) e3).trans m0
 have d1:=(B5.cell (p:=⟨g,_,none⟩) e3).trans m1
 have d2:=(B5.cell (p:=⟨g,_,none⟩) e3).trans m2
 have d3:=(B5.cell (p:=⟨g,_,none⟩) e3).trans m3
 have d4:=(B5.cell (p:=⟨g,_,none⟩) e3).trans m4
 have df:∀o,w5.frozen? ⟨g,o,none⟩=false:=fun o=>(B5.frozen (p:=⟨g,_,none⟩) e3).trans (UN.out _)
 have c9:=(iK.out _ B5).1
 clear m0 m1 m2 m3 m4 iK kW ye iD hb3 hb4 cz B3 B4 B5 p3 p4 p5 o3 o4 o5 yi T0 T8 HC HX Ig
 (repeat first|refine aV ?_|refine aU ?_)
 refine bn rfl (fun K hK=>?_)
 go_simp
 refine hK _ _ ?_
 clear hK K
 refine cj ?_
 have f0:(((((w5.setCell ⟨g,j*5,none⟩ (.bool false)).setCell ⟨g,j*5+1,none⟩ (.slice none 0 0)).setCell ⟨g,j*5+2,none⟩ (.slice s3 KT.length c3)).setCell ⟨g,j*5+3,none⟩ (.slice s4 DT.length c4)).setCell ⟨g,j*5+4,none⟩ (.slice s5 BT.length c5)).cell? ⟨bb,0,none⟩=some (.slice (some ⟨g,0,none⟩) (rs.length+1) cap'):=by
  rw [World.cell?_of_block (a:=⟨bb,0,none⟩) (lF e4)];exact c9
 generalize ((((w5.setCell ⟨g,j*5,none⟩ (.bool false)).setCell ⟨g,j*5+1,none⟩ (.slice none 0 0)).setCell ⟨g,j*5+2,none⟩ (.slice s3 KT.length c3)).setCell ⟨g,j*5+3,none⟩ (.slice s4 DT.length c4)).setCell ⟨g,j*5+4,none⟩ (.slice s5 BT.length c5)=WA at Uq f0 ⊢
 clear d0 d1 d2 d3 d4 df c9
 have hw0:IntKind.i64.wrap ((rs.length:Int)+1-1)=(rs.length:Int)+1-1:=IntWalk.i64_in _ af
 have hw1:IntKind.i64.wrap ((rs.length:Int)+1-1)=(rs.length:Int):=by rw [hw0];omega
 clear hw0
 have hlen:rs.length=t.nodes.length:=fc.out.1.len
 go_wp2
 go_ret2
 exact⟨rfl,_,_,Uq.out.1.below (show ah WA _ from ag) aI,((fc.out.2.1.trans iZ.out.2).trans Uq.out.2).trans (nE.of (show ah WA _ from ag) aI)⟩
end
theorem vJ {M:Nat} {w:World} {bb:Nat} {nv:Value} {rs:List Raw} {t t':Tr} {n more key:Int} (h:Bd M w bb nv rs t) (hF:gW t n=some (t',more,key)) :
  Calls Tryz.prog 119 #[.pointer (some ⟨bb,0,none⟩), .int .i64 n] w fun e w'=>e = .returned (.tuple #[.int .i64 more, .int .i64 key])/\kM M bb (dE bb nv rs) w t' w':=by
 unfold gW at hF
 split at hF
 ·cases hF
 ·rename_i x hx
  split at hF
  ·rename_i hl
   split at hF
   ·rename_i h6
    injection hF with hF
    injection hF with h1 h2
    injection h2 with h2 h3
    subst h1 h2 h3
    exact yH h hx (.inl ⟨hl,h6⟩)
   ·split at hF
    ·rename_i hg
     injection hF with hF
     injection hF with h1 h2
     injection h2 with h2 h3
     subst h1 h2 h3
     exact Fz h hx hl hg.1 hg.2
    ·cases hF
  ·rename_i hl
   have hl:x.leaf=false:=by simpa using hl
   split at hF
   ·rename_i h4
    injection hF with hF
    injection hF with h1 h2
    injection h2 with h2 h3
    subst h1 h2 h3
    exact yH h hx (.inr ⟨hl,h4⟩)
   ·split at hF
    ·rename_i hg
     obtain⟨g1,g2,g3,g4,g5⟩:=hg
     injection hF with hF
     injection hF with h1 h2
     injection h2 with h2 h3
     subst h1 h2 h3
     obtain⟨j,nb,cap,r,rfl,rfl,kP,sx,hjl,hown⟩:=h.place hx
     obtain⟨-,⟨r9,hb0⟩|⟨gb,bc,cur,r9,-⟩⟩:=hown.buf.row
     ·exact xI h kP sx hjl hown r9 hl g1 g2 g3 g4 g5 (xQ hb0)
     ·by_cases hc:bc=ic x.buf (x.keys.getD 1 0)
      ·exact ql (o:=0) h kP sx hjl hown r9 hl g1 g2 g3 g4 g5 rfl (by rw [ar hc])
      ·exact ql h kP sx hjl hown r9 hl g1 g2 g3 g4 g5 rfl (by rw [ai hc])
    ·cases hF
end Go.Proofs.YtmljjfhgciaceaaGreatDoor
