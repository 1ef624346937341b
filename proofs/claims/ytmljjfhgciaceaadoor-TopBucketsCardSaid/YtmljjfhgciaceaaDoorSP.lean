/- Texts of mine that come as one: Rest SplitA SplitB SplitC SplitD Split. -/
import Derived.Test.YtmljjfhgciaceaaDoorHd
import Derived.Test.YtmljjfhgciaceaaDoorDG
import Derived.Test.YtmljjfhgciaceaaDoorIG
import Derived.Test.YtmljjfhgciaceaaDoorSO
import Derived.Test.YtmljjfhgciaceaaDoorAW
namespace Go.Proofs.YtmljjfhgciaceaaDoor
open Go.RowKit
section
set_option maxRecDepth 100000
set_option maxHeartbeats 4000000
variable {n:Int} {t t':Tr} {w:World}
theorem FN {e:aA} (h:oQ n t e=some t'):∃x b,t.dn n=some x/\vk x.buf/\jV e/\jG x.buf e=some b/\t'=cH t n { x with buf:=b }:=by
 unfold oQ at h
 split at h
 ·cases h
 ·rename_i x hx
  obtain⟨b,hb,rfl⟩:=Option.map_eq_some_iff.1 h
  unfold xK at hb
  split at hb
  ·rename_i hg
   exact⟨x,b,hx,hg.1,hg.2,hb,rfl⟩
  ·cases hb
theorem Df {B:Nat} {F F':Nat->Prop} {w':World} {v:Value} {es:List aA} (h:av B w v es) (hs:nI F F' w w') (hF:∀b,v.ownBlock=some b->¬F b):av B w' v es/\∀b,v.ownBlock=some b->¬F' b:=
 ⟨h.block fun g hg=>(hs.stay (h.lt g hg).2 (hF g hg)).1,fun b hb=>(hs.stay (h.lt b hb).2 (hF b hb)).2⟩
def kO (M:Nat) (bb:Nat) (F:Nat->Prop) (w:World) (t':Tr) (w':World):Prop:=∃kX rs',Bd M w' bb kX rs' t'/\nI F (dE bb kX rs') w w'
theorem Lx {M:Nat} {bb:Nat} {nv:Value} {rs:List Raw} {key:Int} {dv:Value} {all:List aA} (h:Bd M w bb nv rs t) (hd:av M w dv all) (hdF:∀b,dv.ownBlock=some b->¬dE bb nv rs b) (hl:all.length<=20)
  (hF:(all.filter fun d=>decide (key<d.key)).foldlM (oQ n) t=some t') :
  Calls Tryd.prog 119 #[.pointer (some ⟨bb,0,none⟩), .int .i64 n,dv, .int .i64 key] w fun e w'=>e = .returned (.tuple #[])/\kO M bb (dE bb nv rs) w t' w':=by
 obtain⟨ds,dc,rfl⟩:=hd.isSlice
 have HST:=hdd (aM h (aM hd (aM hdF hF)))
 clear h hd hdF hF
 go_enter Tryd.func119,Tryd.ntmps119
 go_wp2_with fail
 go_loopg [12] all.length (fun g i wr=>∃k:Nat,k<=all.length/\g=all.length-k/\i = .int .i64 k/\Hid (∃kX rs' tk,Bd M wr bb kX rs' tk/\nI (dE bb nv rs) (dE bb kX rs') w wr/\av M wr (.slice ds all.length dc) all/\(∀b,(Value.slice ds all.length dc).ownBlock=some b->¬dE bb kX rs' b)/\((all.drop k).filter fun d=>decide (key<d.key)).foldlM (oQ n) tk=some t'))
 case atStart=>exact⟨0,iN _,rfl,rfl,hdd ⟨nv,rs,t,HST.out.1,nI.refl _ _,HST.out.2.1,HST.out.2.2.1,HST.out.2.2.2⟩⟩
 case round=>
  clear HST
  obtain⟨k,hk,rfl,rfl,HR⟩:=hrel
  obtain⟨kX,rs',tk,hB,hS,ho,U2,hf⟩:=HR.out
  by_cases jH:k<all.length
  ·obtain⟨_,_,hv,-,-,-,-,h5⟩:=ho.at af
   injection hv with hv1 _ hv3
   subst hv3
   obtain⟨eb,bZ,lR,rW,nH⟩:=h5 af
   subst lR
   subst hv1
   obtain⟨y0,y1,y2,y3,y4,y5,y6⟩:=bR (aJ _ _) rW nH jH
   obtain⟨y,hy⟩:=bw (all[k])
   rw [hy]at y0 y1 y2 y3 y4 y5 y6
   rw [vg jH,hy]at hf
   obtain⟨W8,mf⟩:=bQ (wr.alloc (.cells #[.int .i64 y.key, .int .i64 y.is.c, .int .i64 y.is.s, .int .i64 y.is.mi, .int .i64 y.is.ma, .int .i64 y.is.t, .int .i64 y.is.l] 96))
   have kZ:ah wr W8:=by rw [mf];exact ag
   have DN:W8.heap.size=wr.heap.size+1:=by rw [mf];simp
   have k8:W8.heap[wr.heap.size]?=some (.cells #[.int .i64 y.key, .int .i64 y.is.c, .int .i64 y.is.s, .int .i64 y.is.mi, .int .i64 y.is.ma, .int .i64 y.is.t, .int .i64 y.is.l] 96):=by rw [mf];exact aq _ _ rfl
   have IM:=hB.below kZ aI
   have Xp:=hS.trans (nI.of (F:=dE bb kX rs') kZ aI)
   have QW:=ho.below kZ aI
   have hF8:¬dE bb kX rs' wr.heap.size:=fun hf=>by have:=(hB.lt _ hf).2;omega
   have kS:=fun w'=>dD (ab:=eb) (aY:=bZ) (n:=all.length) (cap:=dc) (show (k:Int)=((k:Nat):Int) by rfl) jH w'
   have s0:W8.cell? ⟨wr.heap.size,0,none⟩=some (.int .i64 y.key):=by simp [World.cell?,k8]
   have HK8:=hdd k8
   have fe:=hdd (aM IM (aM Xp (aM QW U2)))
   have HF8:=hdd hF8
   go_upto_region 3 with (fail)
   rw [<-mf]
   clear hB hS ho U2 mf IM Xp QW nH h5 hy y0 y1 y2 y3 y4 y5 y6 k8 kS HR hF8
   by_cases i1:key<y.key
   ·rw [tN (by simpa using i1),List.foldlM_cons]at hf
    cases hr:oQ n tk y with
    |none=>rw [hr]at hf;cases hf
    |some t1=>
     rw [hr]at hf
     have X3:=hdd (show ((all.drop (k+1)).filter fun d=>decide (key<d.key)).foldlM (oQ n) t1=some t' from hf)
     obtain⟨x,b,hx,hrow,hent,hins,ht1⟩:=FN hr
     obtain⟨IM,Xp,QW,U2⟩:=fe.out
     obtain⟨j,nb,cap,r,rfl,rfl,kR,si,hjl,hown⟩:=IM.place hx
     obtain⟨c0,-,-,-,-,c4,wm,Fa,hbl,hnl,vz⟩:=IM.cells kR
     obtain⟨bs,bc,rX⟩:=hown.buf.isSlice
     rw [rX]at c4
     have hm:=tz (w:=W8.drew) (x:=y) (av.drew (rX▸hown.buf)) (by have:=IM.low;show M<=W8.heap.size;omega) (by have:=hrow.2.2.2;omega) hrow.1 (fun e he=>(hrow.2.1 e he).2) hent.2.1 hrow.2.2.1 hent.2.2
     rw [hins]at hm
     have HM:=hdd hm
     have im:=fun w'=>dS (ab:=nb) (aY:=0) (n:=rs'.length) (cap:=cap) (show (j:Int)=((j:Nat):Int) by rfl) hjl w'
     simp only [iM]at im
     have iL:=hdd fun(W:World) (hT:aw (fun b=>(Value.slice bs x.buf.length bc).ownBlock=some b) W8 W)=>(by
      have g1:∀b,b<W8.heap.size->(Value.slice bs x.buf.length bc).ownBlock≠some b->∀o,W.cell? ⟨b,o,none⟩=W8.cell? ⟨b,o,none⟩:=fun b hb hne o=>hT.cell hb hne o
      have hsl:∀b,(Value.slice bs x.buf.length bc).ownBlock=some b->b≠bb/\b≠nb/\b≠wr.heap.size:=fun b hb=>by
       rw [<-rX]at hb
       have:=IM.off j r 3 b kR hb
       exact⟨this.1,fun e=>this.2 (by rw [e];rfl),fun e=>HF8.out (by rw [<-e];exact .inr (.inr ⟨j,r,3,kR,hb⟩))⟩
      have e1:=g1 bb hbl (fun h=>(hsl bb h).1 rfl)
      have e2:=g1 nb hnl (fun h=>(hsl nb h).2.1 rfl)
      have e3:=g1 wr.heap.size af (fun h=>(hsl _ h).2.2 rfl)
      refine⟨(e1 0).trans c0,(e2 _).trans c4,?_⟩
      rw [e3,e3,e3,e3,e3,e3,e3]
      simp [World.cell?,HK8.out]:W.cell? ⟨bb,0,none⟩=some (.slice (some ⟨nb,0,none⟩) rs'.length cap)/\W.cell? ⟨nb,j*5+4,none⟩=some (.slice bs x.buf.length bc)/\W.cell? ⟨wr.heap.size,0,none⟩=some (.int .i64 y.key)/\W.cell? ⟨wr.heap.size,1,none⟩=some (.int .i64 y.is.c)/\W.cell? ⟨wr.heap.size,2,none⟩=some (.int .i64 y.is.s)/\W.cell? ⟨wr.heap.size,3,none⟩=some (.int .i64 y.is.mi)/\W.cell? ⟨wr.heap.size,4,none⟩=some (.int .i64 y.is.ma)/\W.cell? ⟨wr.heap.size,5,none⟩=some (.int .i64 y.is.t)/\W.cell? ⟨wr.heap.size,6,none⟩=some (.int .i64 y.is.l))
     have H0:=hdd fun(W:World) (hT:aw (fun b=>(Value.slice bs x.buf.length bc).ownBlock=some b) W8 W)=>(by
      have hne:(Value.slice bs x.buf.length bc).ownBlock≠some nb:=fun h=>by rw [<-rX]at h;exact(IM.off j r 3 nb kR h).2 rfl
      exact fun o=>(hT.frozen hnl hne o).trans (wm o):∀o,W.frozen? ⟨nb,o,none⟩=false)
     have zZ:=hdd fun(W:World) (v':Value) (hT:aw (fun b=>(Value.slice bs x.buf.length bc).ownBlock=some b) W8 W) (hv:av M W v' b) (hv':∀b,v'.ownBlock=some b->(Value.slice bs x.buf.length bc).ownBlock=some b\/W8.heap.size<=b)=>(by
      obtain⟨q1,q2⟩:=IM.field (f:=3) rfl kR si af (w1:=W) (v':=v') (x':={ x with buf:=b }) (by show aw (fun b=>r.bv.ownBlock=some b) W8 W;rw [rX];exact hT) hv.row (by show ∀b,v'.ownBlock=some b->r.bv.ownBlock=some b\/_;rw [rX];exact hv') rfl (fun g hg=>by
       rcases lH g 4 with h4|h4
       ·rcases vw h4 with rfl|rfl|rfl|rfl <;> first|exact⟨rfl,rfl⟩|exact absurd rfl hg
       ·obtain⟨k,rfl⟩:∃k,g=k+4:=⟨g-4,af⟩;exact⟨rfl,rfl⟩) rfl
      obtain⟨q3,q4⟩:=Df QW q2 U2
      exact⟨_,_,t1,ht1▸q1,Xp.trans q2,q3,q4,X3.out⟩:∃kX rs' tk,Bd M (W.setCell ⟨nb,j*5+4,none⟩ v') bb kX rs' tk/\nI (dE bb nv rs) (dE bb kX rs') w (W.setCell ⟨nb,j*5+4,none⟩ v')/\av M (W.setCell ⟨nb,j*5+4,none⟩ v') (.slice (some ⟨eb,bZ,none⟩) all.length dc) all/\(∀b,(Value.slice (some ⟨eb,bZ,none⟩) all.length dc).ownBlock=some b->¬dE bb kX rs' b)/\((all.drop (k+1)).filter fun d=>decide (key<d.key)).foldlM (oQ (j:Int)) tk=some t')
     clear IM Xp QW U2 hx hrow hent hins ht1 kR si hown rX c0 c4 wm Fa hm hr hf
     go_wp2_with fail
     refine bI [(0,1),(1,1),(2,1),(3,1),(4,0),(5,1),(6,1),(7,1),(8,1),(9,1),(10,0),(11,1),(12,1),(13,1),(14,0),(15,0),(16,2),(17,1),(18,1),(19,1),(20,1),(21,1),(22,3)] 22
      (fun W=>W.cell? ⟨bb,0,none⟩=some (.slice (some ⟨nb,0,none⟩) rs'.length cap)/\W.cell? ⟨nb,j*5+4,none⟩=some (.slice bs x.buf.length bc)/\W.cell? ⟨wr.heap.size,0,none⟩=some (.int .i64 y.key)/\W.cell? ⟨wr.heap.size,1,none⟩=some (.int .i64 y.is.c)/\W.cell? ⟨wr.heap.size,2,none⟩=some (.int .i64 y.is.s)/\W.cell? ⟨wr.heap.size,3,none⟩=some (.int .i64 y.is.mi)/\W.cell? ⟨wr.heap.size,4,none⟩=some (.int .i64 y.is.ma)/\W.cell? ⟨wr.heap.size,5,none⟩=some (.int .i64 y.is.t)/\W.cell? ⟨wr.heap.size,6,none⟩=some (.int .i64 y.is.l)) cy cy (iL.out _ (aw.drew (aw.refl _ _))) ?_
     (simp only [bF,List.filterMap_cons,List.filterMap_nil,List.getElem?_cons_zero,List.getElem?_cons_succ,Option.map_some])
     (repeat first|refine bg ?_|refine aZ ?_)
     refine aS rfl (fun K hK=>?_)
     go_simp
     (with_reducible refine HM.out.mono ?_);rintro e w5 ⟨qq,v5,rfl,iD,UX⟩
     have PM:aw (fun b=>(Value.slice bs x.buf.length bc).ownBlock=some b) W8 w5:=(aw.drew (aw.refl _ _)).trans qq
     go_simp
     refine hK _ _ (iL.out _ PM) ?_
     clear hK K
     have HV:=hdd (zZ.out w5 v5 PM iD UX)
     have hfz:=H0.out _ PM (j*5+4)
     obtain⟨-,YW,-⟩:=iL.out _ PM
     obtain⟨s5,c5,rfl⟩:=iD.isSlice
     clear qq iD UX
     (repeat first|refine bg ?_|refine aZ ?_)
     refine bp rfl (fun K hK=>?_)
     go_simp
     refine hK _ _ ?_
     clear hK K
     refine cv ?_
     go_wp2
     go_roundg (all.length-(k+1))
     case measure=>omega
     case rel=>exact⟨k+1,af,rfl,by go_num,HV⟩
   ·rw [sx (by simpa using i1)]at hf
    have HV:=hdd (by exact⟨_,_,tk,fe.out.1,fe.out.2.1,fe.out.2.2.1,fe.out.2.2.2,hf⟩:∃kX rs' tk,Bd M W8 bb kX rs' tk/\nI (dE bb nv rs) (dE bb kX rs') w W8/\av M W8 (.slice (some ⟨eb,bZ,none⟩) all.length dc) all/\(∀b,(Value.slice (some ⟨eb,bZ,none⟩) all.length dc).ownBlock=some b->¬dE bb kX rs' b)/\((all.drop (k+1)).filter fun d=>decide (key<d.key)).foldlM (oQ n) tk=some t')
    have i1':y.key<=key:=af
    clear hf i1
    go_wp2
    go_roundg (all.length-(k+1))
    case measure=>omega
    case rel=>exact⟨k+1,af,rfl,by go_num,HV⟩
  ·rw [AA af]at hf
   obtain rfl:=dw hf
   have HV:=hdd (show kO M bb (dE bb nv rs) w tk wr from ⟨_,_,hB,hS⟩)
   clear hB hS ho U2 HR hf
   go_wp2
   go_end0
   exact⟨rfl,HV.out⟩
end
section
set_option maxRecDepth 100000
set_option maxHeartbeats 4000000
variable {es:List aA} {M g c i:Nat} {x:Nd} {r:Raw} {w:World}
theorem Dg (h:av M w (.slice (some ⟨g,0,none⟩) es.length c) es) (hl:es.length<=1000) (hi:i<=es.length) (o:Nat) (ho:i<es.length->o=i*7) :
  eQ w (.slice (some ⟨g,o,none⟩) (es.length-i) (c-i)) (es.drop i):=by
 obtain⟨ao,cap,hv,h1,h2,h3,h4,h5⟩:=h.at af
 injection hv with hv1 _ hv3
 subst hv3
 refine⟨_,_,by rw [oJ],by rw [oJ];omega,af,by rw [oJ];omega,bq,fun h0=>?_⟩
 rw [oJ]at h0
 obtain rfl:=ho af
 obtain⟨b,off,hb,hlt,hc⟩:=h5 af
 rw [<-hv1]at hb
 injection hb with hb;injection hb with e1 e2
 subst e1 e2
 refine⟨g,i*7,rfl,hlt,fun k x hk j u hu=>?_⟩
 rw [List.getElem?_drop]at hk
 have:=hc (i+k) x hk j u hu
 rw [<-this];congr 2;omega
theorem De (h:av M w (.slice (some ⟨g,0,none⟩) es.length c) es) (hl:es.length<=1000) (hi:i<=es.length) :
  eQ w (.slice (some ⟨g,0,none⟩) i c) (es.take i):=by
 obtain⟨ao,cap,hv,h1,h2,h3,h4,h5⟩:=h.at af
 injection hv with hv1 _ hv3
 subst hv3
 refine⟨_,_,by rw [fw,Nat.min_eq_left hi],by rw [fw,Nat.min_eq_left hi];omega,af,by rw [fw,Nat.min_eq_left hi];omega,bq,fun h0=>?_⟩
 rw [fw,Nat.min_eq_left hi]at h0
 obtain⟨b,off,hb,hlt,hc⟩:=h5 af
 rw [<-hv1]at hb
 injection hb with hb;injection hb with e1 e2
 subst e1 e2
 refine⟨g,0,rfl,hlt,fun k x hk j u hu=>hc k x ?_ j u hu⟩
 rw [qd]at hk
 split at hk
 ·exact hk
 ·cases hk
theorem rP {es:List Int} (h:bt M w (.slice (some ⟨g,0,none⟩) es.length c) es) (hl:es.length<=1000) (hi:i<=es.length) (o:Nat) (ho:i<es.length->o=i) :
  gu w (.slice (some ⟨g,o,none⟩) (es.length-i) (c-i)) (es.drop i):=by
 obtain⟨ao,cap,hv,h1,h2,h3,h4,h5⟩:=h.at af
 injection hv with hv1 _ hv3
 subst hv3
 refine⟨_,_,by rw [oJ],by rw [oJ];omega,af,by rw [oJ];omega,bq,fun h0=>?_⟩
 rw [oJ]at h0
 obtain rfl:=ho af
 obtain⟨b,off,hb,hlt,hc⟩:=h5 af
 rw [<-hv1]at hb
 injection hb with hb;injection hb with e1 e2
 subst e1 e2
 refine⟨g,o,rfl,hlt,fun k x hk j u hu=>?_⟩
 rw [List.getElem?_drop]at hk
 have:=hc (o+k) x hk j u hu
 rw [<-this];congr 2;omega
theorem rO {es:List Int} (h:bt M w (.slice (some ⟨g,0,none⟩) es.length c) es) (hl:es.length<=1000) (hi:i<=es.length) :
  gu w (.slice (some ⟨g,0,none⟩) i c) (es.take i):=by
 obtain⟨ao,cap,hv,h1,h2,h3,h4,h5⟩:=h.at af
 injection hv with hv1 _ hv3
 subst hv3
 refine⟨_,_,by rw [fw,Nat.min_eq_left hi],by rw [fw,Nat.min_eq_left hi];omega,af,by rw [fw,Nat.min_eq_left hi];omega,bq,fun h0=>?_⟩
 rw [fw,Nat.min_eq_left hi]at h0
 obtain⟨b,off,hb,hlt,hc⟩:=h5 af
 rw [<-hv1]at hb
 injection hb with hb;injection hb with e1 e2
 subst e1 e2
 refine⟨g,0,rfl,hlt,fun k x hk j u hu=>hc k x ?_ j u hu⟩
 rw [qd]at hk
 split at hk
 ·exact hk
 ·cases hk
theorem gV.keys (h:gV M w r x):bt M w r.kv x.keys:=⟨h.row 1⟩
theorem gV.kids (h:gV M w r x):bt M w r.dv x.kids:=⟨h.row 2⟩
theorem yB {bb:Nat} {nv:Value} {rs:List Raw} {t:Tr} {n:Int} (h:Bd M w bb nv rs t) (hx:t.dn n=some x) (hs:(x.leaf=true/\x.aF.length<=6)\/(x.leaf=false/\x.kids.length<=4)) :
  Calls Tryd.prog 96 #[.pointer (some ⟨bb,0,none⟩), .int .i64 n] w fun e w'=>e = .returned (.tuple #[.int .i64 (-1), .int .i64 0])/\kO M bb (dE bb nv rs) w t w':=by
 obtain⟨j,nb,cap,r,rfl,rfl,kR,si,hjl,hown⟩:=h.place hx
 obtain⟨c0,k0,k1,k2,k3,k4,wm,Fa,hbl,hnl,vz⟩:=h.cells kR
 have HB:=hdd fun w' (hb:ah w w')=>(⟨_,_,h.below hb aI,nI.of hb aI⟩:kO M bb (dE bb (.slice (some ⟨nb,0,none⟩) rs.length cap) rs) w t w')
 obtain⟨es,ec,hev⟩:=hown.aF.isSlice
 obtain⟨ks,kc,xZ⟩:=hown.keys.isSlice
 obtain⟨ds,dc,Be⟩:=hown.kids.isSlice
 obtain⟨bs,bc,rX⟩:=hown.buf.isSlice
 rw [hown.leaf]at k0
 rw [hev]at k1
 rw [xZ]at k2
 rw [Be]at k3
 rw [rX]at k4
 have im:=fun w'=>dS (ab:=nb) (aY:=0) (n:=rs.length) (cap:=cap) (show (j:Int)=((j:Nat):Int) by rfl) hjl w'
 simp only [iM]at im
 rcases hs with ⟨hl,hs⟩|⟨hl,hs⟩
 ·rw [hl]at k0
  have hs':(x.aF.length:Int)<=6:=af
  clear h hx kR si hown hev xZ Be rX wm Fa hl hs
  go_enter Tryd.func96,Tryd.ntmps96
  go_wp2
  go_ret2
  exact⟨rfl,HB.out _ ag⟩
 ·rw [hl]at k0
  have hs':(x.kids.length:Int)<=4:=af
  clear h hx kR si hown hev xZ Be rX wm Fa hl hs
  go_enter Tryd.func96,Tryd.ntmps96
  go_wp2
  go_ret2
  exact⟨rfl,HB.out _ ag⟩
end
section
set_option maxRecDepth 100000
set_option maxHeartbeats 4000000
theorem pS:∃i0 z,Tryd.prog.info? 119=some i0/\i0.zero=some z/\i0.size=5/\i0.bytes=104/\z.cells.size=5:=by
 obtain⟨i0,z,hi,hz,hz1,hz2,hz3⟩:=cC Tryd.QO
 exact⟨i0,z,hi,hz,hz1,hz2,hz3⟩
theorem nW (M:Nat) (w:World) (e:TypeId) (k:Nat):w.ownsRow M e k (.slice none 0 0) 0 []:=World.ownsRow_nil _ _ _ _
theorem Fw {M:Nat} {w:World} {bb:Nat} {nv:Value} {rs:List Raw} {t:Tr} {n:Int} {x:Nd} (h:Bd M w bb nv rs t) (hx:t.dn n=some x) (hl:x.leaf=true) (h7:x.aF.length=7) (hm:t.nodes.length<=1000000000000) :
  Calls Tryd.prog 96 #[.pointer (some ⟨bb,0,none⟩), .int .i64 n] w fun e w'=>e = .returned (.tuple #[.int .i64 t.nodes.length, .int .i64 (x.aF.getD 3 default).key]) /\
   kO M bb (dE bb nv rs) w (cH (jo t ⟨true,x.aF.drop 3,[],[],[]⟩) n { x with aF:=x.aF.take 3 }) w':=by
 obtain⟨j,nb,cap,r,rfl,rfl,kR,si,hjl,hown⟩:=h.place hx
 obtain⟨c0,k0,k1,k2,k3,k4,wm,Fa,hbl,hnl,vz⟩:=h.cells kR
 obtain⟨es,ec,hev⟩:=hown.aF.isSlice
 obtain⟨ks,kc,xZ⟩:=hown.keys.isSlice
 obtain⟨ds,dc,Be⟩:=hown.kids.isSlice
 obtain⟨bs,bc,rX⟩:=hown.buf.isSlice
 have ho0:=hown.aF
 rw [hev]at ho0
 obtain⟨eb,Vk,hes,-,-⟩:=World.ownsRow.form ho0.row af
 injection hes with ab8 _ ab7
 subst ab8 ab7
 have nH:7<=ec:=by obtain⟨_,_,hv,h1,_⟩:=ho0.at af;injection hv with _ _ hv3;omega
 have heo:=h.off j r 0 eb kR (by show r.ev.ownBlock=_;rw [hev];rfl)
 have Gw:eb≠bb:=heo.1
 have SP:eb≠nb:=fun e=>heo.2 (by rw [e];rfl)
 have abd:eb<w.heap.size:=(ho0.lt eb rfl).2
 have hM:M<=w.heap.size:=by have:=(h.lt bb (.inl rfl)).1;omega
 rw [hown.leaf,hl]at k0
 rw [hev,h7]at k1
 rw [xZ]at k2
 rw [Be]at k3
 rw [rX]at k4
 have im:=fun w'=>dS (ab:=nb) (aY:=0) (n:=rs.length) (cap:=cap) (show (j:Int)=((j:Nat):Int) by rfl) hjl w'
 simp only [iM]at im
 obtain⟨y,hy⟩:∃y,x.aF[3]?=some y:=⟨x.aF[3],by simp [h7]⟩
 have IB:(x.aF.getD 3 default)=y:=by rw [List.getD_eq_getElem?_getD,hy];rfl
 have Mq:w.cell? ⟨eb,21,none⟩=some (.int .i64 y.key):=by
  obtain⟨ao,c,hv,h1,h2,h3,h4,h5⟩:=ho0.at af
  injection hv with hv1 _ hv3
  obtain⟨b,off,hb,hlt,hc⟩:=h5 af
  rw [<-hv1]at hb
  injection hb with hb;injection hb with e1 e2
  subst e1 e2
  have:=hc 3 y hy 0 (.int .i64 y.key) rfl
  simpa using this
 rw [IB]
 obtain⟨W1,hW1⟩:=bQ (w.alloc (.cells #[.bool true, .slice (some ⟨eb,0,none⟩) 7 ec, .slice ks x.keys.length kc, .slice ds x.kids.length dc, .slice bs x.buf.length bc] 119))
 have hb1:ah w W1:=by rw [hW1];exact ag
 have hz1:W1.heap.size=w.heap.size+1:=by rw [hW1];simp
 have kx:W1.heap[w.heap.size]?=some (.cells #[.bool true, .slice (some ⟨eb,0,none⟩) 7 ec, .slice ks x.keys.length kc, .slice ds x.kids.length dc, .slice bs x.buf.length bc] 119):=by rw [hW1];exact aq _ _ rfl
 have Bh:=h.below hb1 aI
 have hS1:nI (dE bb (.slice (some ⟨nb,0,none⟩) rs.length cap) rs) (dE bb (.slice (some ⟨nb,0,none⟩) rs.length cap) rs) w W1:=nI.of hb1 aI
 have Ap:=ho0.below hb1 aI
 -- what no step of this function turns
 have HX:=hdd fun(W:World) (hT:aw (fun b=>b=bb\/b=nb) W1 W)=>(by
  have e1:W.heap[w.heap.size]?=_:=(hT.block _ af (by rintro(e|e) <;> omega)).trans kx
  have e2:W.heap[eb]?=w.heap[eb]?:=(hT.block eb af (by rintro(e|e) <;> contradiction)).trans (hb1.block eb abd)
  exact⟨by simp [World.cell?,e1],by simp [World.cell?,e1],by rw [World.cell?_of_block (a:=⟨eb,21,none⟩) e2];exact Mq,ho0.block fun g hg=>by injection hg with hg;subst hg;exact e2⟩ :
  W.cell? ⟨w.heap.size,0,none⟩=some (.bool true)/\W.cell? ⟨w.heap.size,1,none⟩=some (.slice (some ⟨eb,0,none⟩) 7 ec)/\W.cell? ⟨eb,21,none⟩=some (.int .i64 y.key)/\av M W (.slice (some ⟨eb,0,none⟩) x.aF.length ec) x.aF)
 have HC:=hdd fun(W:World) (hT:aw (fun b=>b=bb\/b=nb) W1 W)=>(by
  have o:=(HX.out W hT).2.2.2
  have h1:=Dg (i:=3) o af af 21 (fun _=>rfl)
  have h2:=De (i:=3) o af af
  rw [h7]at h1
  have c1:=eV h1
  have c2:=eV h2
  exact⟨c1,c2⟩:Calls Tryd.prog 88 #[.slice (some ⟨eb,21,none⟩) (7-3) (ec-3)] W (fun e w'=>∃v',e = .returned v'/\w'.ownsRow W.heap.size 96 7 v' (x.aF.drop 3).length ((x.aF.drop 3).flatMap bj)/\ah W w') /\
   Calls Tryd.prog 88 #[.slice (some ⟨eb,0,none⟩) 3 ec] W (fun e w'=>∃v',e = .returned v'/\w'.ownsRow W.heap.size 96 7 v' (x.aF.take 3).length ((x.aF.take 3).flatMap bj)/\ah W w'))
 obtain⟨DR,hDR⟩:=bw (x.aF.drop 3)
 obtain⟨TK,hTK⟩:=bw (x.aF.take 3)
 rw [hDR,hTK]at HC ⊢
 clear hDR hTK
 obtain⟨i0,z0,hi0,hz0,DX,DW,DV⟩:=pS
 have hlen:rs.length=t.nodes.length:=h.len
 have hrl:rs.length<=1000000000000:=af
 have fe:=hdd (aM Bh (aM hS1 (aM kR (aM si hev))))
 have hg2:¬(ec=3):=af
 have hg3:(3:Int)<=(ec:Int):=af
 have Ea:bb<W1.heap.size:=af
 have Ww:nb<W1.heap.size:=af
 have c0':W1.cell? ⟨bb,0,none⟩=some (.slice (some ⟨nb,0,none⟩) rs.length cap):=(hb1.cell (p:=⟨bb,0,none⟩) hbl).trans c0
 obtain⟨q0,q1,-⟩:=HX.out W1 (aw.refl _ _)
 have HYK:=hdd hy
 clear h hx hown hev xZ Be rX hl hlen ho0 Ap Bh hS1 heo kR si IB hy Mq
 go_enter Tryd.func96,Tryd.ntmps96
 go_upto_region 3 with (fail)
 rw [<-hW1]
 clear hW1 k0 k1 k2 k3 k4 wm c0 kx
 have iL:=hdd fun(W:World) (hT:aw (fun b=>b=nb) W1 W)=>(⟨(hT.cell Ea vz 0).trans c0',(HX.out W (hT.mono fun _ _ h=> .inr h)).2.1⟩:W.cell? ⟨bb,0,none⟩=some (.slice (some ⟨nb,0,none⟩) rs.length cap)/\W.cell? ⟨w.heap.size,1,none⟩=some (.slice (some ⟨eb,0,none⟩) 7 ec))
 have T0:aw (fun b=>b=nb) W1 W1.drew:=(aw.refl _ _).drew
 clear c0' q0 q1
 have q1:=(iL.out W1 (aw.refl _ _)).2
 go_wp2_with fail
 clear q1
 refine bI [(0,1),(1,1),(2,1),(3,1),(4,1),(5,0),(6,1),(7,0),(8,1),(9,1),(10,2),(11,1),(12,2),(13,2),(14,1),(15,1),(16,1),(17,3)] 17 (fun W=>W.cell? ⟨bb,0,none⟩=some (.slice (some ⟨nb,0,none⟩) rs.length cap)/\W.cell? ⟨w.heap.size,1,none⟩=some (.slice (some ⟨eb,0,none⟩) 7 ec)) cy cy (iL.out _ T0) ?_
 (simp only [bF,List.filterMap_cons,List.filterMap_nil,List.getElem?_cons_zero,List.getElem?_cons_succ,Option.map_some])
 (repeat first|refine bg ?_|refine aZ ?_)
 refine aS rfl (fun K hK=>?_)
 go_simp
 (with_reducible refine(HC.out _ (T0.mono fun _ _ h=> .inr h)).1.mono ?_);rintro e w5 ⟨v5,rfl,iD,cx⟩
 obtain⟨s5,c5,rfl⟩:=(av.mk iD).isSlice
 have T5:aw (fun b=>b=nb) W1 w5:=T0.trans (aw.of cx aI)
 go_simp
 refine hK _ _ (iL.out _ T5) ?_
 clear hK K
 (repeat first|refine bg ?_|refine aZ ?_)
 refine aS rfl (fun K hK=>?_)
 go_simp
 obtain⟨W6,tU⟩:=bQ (w5.alloc (.cells #[.bool true,(.slice s5 DR.length c5), .slice none 0 0, .slice none 0 0, .slice none 0 0] 119))
 have jY:ah w5 W6:=by rw [tU];exact ag
 have k6:W6.heap[w5.heap.size]?=some (.cells #[.bool true,(.slice s5 DR.length c5), .slice none 0 0, .slice none 0 0, .slice none 0 0] 119):=by rw [tU];exact aq _ _ rfl
 have uC:W6.heap.size=w5.heap.size+1:=by rw [tU];simp
 rw [<-tU]
 have T6:aw (fun b=>b=nb) W1 W6:=T5.trans (aw.of jY aI)
 refine hK _ _ (iL.out _ T6) ?_
 clear hK K tU
 have kQ:W1.heap.size<=w5.heap.size:=T5.size
 have Ve:ah W1 W6:=Below.trans' (show ah W1 w5 from ⟨cx.os,cx.tape,cx.output,cx.size,cx.block⟩) jY kQ
 have xm:=(fe.out.1.below Ve aI).row
 refine aS rfl (fun K hK=>?_)
 refine wp_append_lies _ (.tmp 38) (.tmp 45) 30 rfl M 119 i0 z0 5 104 Tryd.underlying30 hi0 hz0 DX DW DV aW _ rs.length _ rfl xm ⟨w5.heap.size,0,none⟩ 1 1 (cL ⟨true,(.slice s5 DR.length c5), .slice none 0 0, .slice none 0 0, .slice none 0 0⟩) rfl rfl (World.news_of_block k6) ?hone aW (by unfold maxLen;omega) af af W6.heap.size rfl ?_
 case hone=>
  intro u hu
  simp [cL]at hu
  rcases hu with rfl|rfl|rfl <;> rfl
 intro g cap' w7 xj uG Q7 ME
 have T7:aw (fun b=>b=nb) W1 w7:=aw.grown T6 uG (fun k hk=> .inl (by injection hk with hk;exact hk.symm))
 refine hK _ _ (iL.out _ T7) ?_
 clear hK K
 have vV:g=nb\/g=W6.heap.size:=Q7.imp (fun h=>(dw h).symm) id
 have DU:=uG.size
 have iY:=hdd (fe.out.1.push (w1:=w7) (kX:= .slice (some ⟨g,0,none⟩) (rs.length+1) cap') (r:=⟨true,(.slice s5 DR.length c5), .slice none 0 0, .slice none 0 0, .slice none 0 0⟩) (x:=⟨true,DR,[],[],[]⟩) (T7.mono fun b _ h=>by rw [h];rfl) xj (fun b hb=>by
   have hb:g=b:=dw hb
   subst hb
   rcases vV with e|e
   ·left;rw [e];rfl
   ·right;rw [e];omega) (by
   have UX:∀b,(Value.slice s5 DR.length c5).ownBlock=some b->W1.heap.size<=b/\b<w5.heap.size:=fun b hb=>iD.lt b hb
   refine⟨gV.of rfl (bX (cP iD (by show M<=W1.heap.size;omega)) fun b hb=>?_) (nW _ _ _ _) (nW _ _ _ _) (nW _ _ _ _),fun f b hb=>?_,fun f g b hb hb'=>?_⟩
   ·have:=UX b hb
    exact(uG.block b af (fun e=>by have e:b=nb:=dw e;omega)).trans (jY.block b af)
   ·rcases lH f 4 with h4|h4
    ·rcases vw h4 with rfl|rfl|rfl|rfl
     ·have:=UX b hb;omega
     ·cases hb
     ·cases hb
     ·cases hb
    ·rw [Raw.ik _ h4]at hb;cases hb
   ·have z:∀f b,(Raw.lS ⟨true,(.slice s5 DR.length c5), .slice none 0 0, .slice none 0 0, .slice none 0 0⟩ f).ownBlock=some b->f=0:=fun f b hb=>by
     rcases lH f 4 with h4|h4
     ·rcases vw h4 with rfl|rfl|rfl|rfl <;> first|rfl|cases hb
     ·rw [Raw.ik _ h4]at hb;cases hb
    rw [z f b hb,z g b hb']) (fun f b hb e=>by
   have e:g=b:=dw e
   rcases lH f 4 with h4|h4
   ·rcases vw h4 with rfl|rfl|rfl|rfl
    ·have:=iD.lt b hb
     have:W1.heap.size<=b:=this.1
     omega
    ·cases hb
    ·cases hb
    ·cases hb
   ·rw [Raw.ik _ h4]at hb;cases hb))
 obtain⟨d0,-⟩:=iL.out _ T7
 have d1:w7.frozen? ⟨bb,0,none⟩=false:=(T7.frozen Ea vz 0).trans ((hb1.frozen (p:=⟨bb,0,none⟩) hbl).trans (Fa 0))
 (repeat first|refine bg ?_|refine aZ ?_)
 refine bp rfl (fun K hK=>?_)
 go_simp
 refine hK _ _ ?_
 clear hK K
 refine cv ?_
 have T8:aw (fun b=>b=bb\/b=nb) W1 (w7.setCell ⟨bb,0,none⟩ (.slice (some ⟨g,0,none⟩) (rs.length+1) cap')):=(T7.mono fun _ _ h=> .inr h).setCell (.inl (.inl rfl)) _
 generalize w7.setCell ⟨bb,0,none⟩ (.slice (some ⟨g,0,none⟩) (rs.length+1) cap')=W8 at iY T8 ⊢
 clear iL T0 T5 T6 T7 cx iD jY Ve xm k6 xj uG Q7 ME d0 d1
 have D5:(rs++[(⟨true,(.slice s5 DR.length c5), .slice none 0 0, .slice none 0 0, .slice none 0 0⟩:Raw)])[j]?=some r:=by rw [zP hjl];exact fe.out.2.2.1
 have aac:(jo t ⟨true,DR,[],[],[]⟩).nodes[j]?=some x:=by
  have:=fe.out.2.2.2.1
  exact(zP (gH.1 this).1).trans this
 have OA:(rs++[(⟨true,(.slice s5 DR.length c5), .slice none 0 0, .slice none 0 0, .slice none 0 0⟩:Raw)]).length=rs.length+1:=bq
 have hcells:=iY.out.1
 rw [<-OA]at hcells
 obtain⟨e0,-,e1,-,-,-,Rm,-,e2,e3,e4⟩:=hcells.cells D5
 rw [OA]at e0
 have MJ:=fun w'=>dS (ab:=g) (aY:=0) (n:=rs.length+1) (cap:=cap') (show (j:Int)=((j:Nat):Int) by rfl) af w'
 simp only [iM]at MJ
 have iL:=hdd fun(W:World) (hT:ah W8 W)=>(⟨(hT.cell (p:=⟨bb,0,none⟩) e2).trans e0,(HX.out W (T8.trans (aw.of hT aI))).2.1⟩:W.cell? ⟨bb,0,none⟩=some (.slice (some ⟨g,0,none⟩) (rs.length+1) cap')/\W.cell? ⟨w.heap.size,1,none⟩=some (.slice (some ⟨eb,0,none⟩) 7 ec))
 have T0:ah W8 W8.drew:=(aJ _ _).drew
 have HE1:=hdd e1
 have UC:=hdd Rm
 have Yl:=hdd hcells
 clear hcells e0 e1 Rm im
 go_wp2_with fail
 refine bI [(0,1),(1,1),(2,1),(3,1),(4,0),(5,1),(6,1),(7,0),(8,1),(9,1),(10,2),(11,1),(12,1),(13,3)] 13 (fun W=>W.cell? ⟨bb,0,none⟩=some (.slice (some ⟨g,0,none⟩) (rs.length+1) cap')/\W.cell? ⟨w.heap.size,1,none⟩=some (.slice (some ⟨eb,0,none⟩) 7 ec)) cy cy (iL.out _ T0) ?_
 (simp only [bF,List.filterMap_cons,List.filterMap_nil,List.getElem?_cons_zero,List.getElem?_cons_succ,Option.map_some])
 (repeat first|refine bg ?_|refine aZ ?_)
 refine aS rfl (fun K hK=>?_)
 go_simp
 (with_reducible refine(HC.out _ (T8.trans (aw.of T0 aI))).2.mono ?_);rintro e w9 ⟨v9,rfl,SK,oO⟩
 obtain⟨s9,c9',rfl⟩:=(av.mk SK).isSlice
 have B9:ah W8 w9:=Below.trans' T0 oO aI
 go_simp
 refine hK _ _ (iL.out _ B9) ?_
 clear hK K
 have d3:w9.cell? ⟨g,j*5+1,none⟩=some r.ev:=(B9.cell (p:=⟨g,_,none⟩) e3).trans HE1.out
 have d4:w9.frozen? ⟨g,j*5+1,none⟩=false:=(B9.frozen (p:=⟨g,_,none⟩) e3).trans (UC.out _)
 have DN:=T8.size
 have Uz:=hdd (Yl.out.field (f:=0) (n:=j) (w1:=w9) (v':= .slice s9 TK.length c9') (x':={ x with aF:=TK }) rfl D5 aac af (aw.of B9 aI) (cP SK (by show M<=W8.heap.size;omega)) (fun b hb=> .inr (SK.lt b hb).1) rfl (fun g hg=>by
  rcases lH g 4 with h4|h4
  ·rcases vw h4 with rfl|rfl|rfl|rfl <;> first|exact⟨rfl,rfl⟩|exact absurd rfl hg
  ·obtain⟨k,rfl⟩:∃k,g=k+4:=⟨g-4,af⟩;exact⟨rfl,rfl⟩) (o:=j*5+1) rfl)
 (repeat first|refine bg ?_|refine aZ ?_)
 refine bp rfl (fun K hK=>?_)
 go_simp
 refine hK _ _ ?_
 clear hK K
 refine cv ?_
 have hgE:eb≠g:=by
  rcases vV with e|e
  ·rw [e];exact SP
  ·omega
 have hgX:w.heap.size≠g:=by
  rcases vV with e|e
  ·rw [e];omega
  ·omega
 have c9:=iL.out _ B9
 have x9:=HX.out _ (T8.trans (aw.of B9 aI))
 have f0:(w9.setCell ⟨g,j*5+1,none⟩ (.slice s9 TK.length c9')).cell? ⟨bb,0,none⟩=some (.slice (some ⟨g,0,none⟩) (rs.length+1) cap'):=by rw [World.cell?_of_block (a:=⟨bb,0,none⟩) (heap_setCell_other w9 ⟨g,_,none⟩ bb (.slice s9 TK.length c9') e4)];exact c9.1
 have f1:(w9.setCell ⟨g,j*5+1,none⟩ (.slice s9 TK.length c9')).cell? ⟨w.heap.size,1,none⟩=some (.slice (some ⟨eb,0,none⟩) 7 ec):=by rw [World.cell?_of_block (a:=⟨w.heap.size,1,none⟩) (heap_setCell_other w9 ⟨g,_,none⟩ _ (.slice s9 TK.length c9') hgX)];exact c9.2
 have f2:(w9.setCell ⟨g,j*5+1,none⟩ (.slice s9 TK.length c9')).cell? ⟨eb,21,none⟩=some (.int .i64 y.key):=by rw [World.cell?_of_block (a:=⟨eb,21,none⟩) (heap_setCell_other w9 ⟨g,_,none⟩ _ (.slice s9 TK.length c9') hgE)];exact x9.2.2.1
 generalize w9.setCell ⟨g,j*5+1,none⟩ (.slice s9 TK.length c9')=WA at Uz f0 f1 f2 ⊢
 clear iL d3 d4 c9 x9 SK oO B9 T0 T8 HC HX
 have hw0:IntKind.i64.wrap ((rs.length:Int)+1-1)=(rs.length:Int)+1-1:=IntWalk.i64_in _ af
 have hw1:IntKind.i64.wrap ((rs.length:Int)+1-1)=(rs.length:Int):=by rw [hw0];omega
 clear hw0
 have hlen:rs.length=t.nodes.length:=fe.out.1.len
 go_wp2_with fail
 go_quiet (fail)
 go_wp2
 go_ret2
 have KV:ah WA WA:=aJ _ _
 exact⟨rfl,_,_,Uz.out.1.below (show ah WA _ from ag) aI,((fe.out.2.1.trans iY.out.2).trans Uz.out.2).trans (nI.of (show ah WA _ from ag) aI)⟩
end
section
set_option maxRecDepth 100000
set_option maxHeartbeats 6000000
variable {M:Nat} {x:Nd} {w:World}
theorem Ck {H:Nat} {lf:Bool} {v1 v2 v3:Value} {a b c:Nat} (hl:x.leaf=lf) (he:x.aF=[]) (h1:w.ownsRow M 3 1 v1 x.keys.length (x.keys.flatMap bV)) (h2:w.ownsRow M 3 1 v2 x.kids.length (x.kids.flatMap bV))
  (h3:w.ownsRow M 96 7 v3 x.buf.length (x.buf.flatMap bj)) (k1:∀g,v1.ownBlock=some g->H<=g/\g<a) (k2:∀g,v2.ownBlock=some g->a<=g/\g<b) (k3:∀g,v3.ownBlock=some g->b<=g/\g<c) (hab:H<=a) (hbc:a<=b) (hc:b<=c) (hcw:c<=w.heap.size) :
  E5 M H w ⟨lf, .slice none 0 0,v1,v2,v3⟩ x/\∀f g,(Raw.lS ⟨lf, .slice none 0 0,v1,v2,v3⟩ f).ownBlock=some g->H<=g/\g<c:=by
 have src:∀f g,(Raw.lS ⟨lf, .slice none 0 0,v1,v2,v3⟩ f).ownBlock=some g->(f=1/\H<=g/\g<a)\/(f=2/\a<=g/\g<b)\/(f=3/\b<=g/\g<c):=fun f g hg=>by
  rcases lH f 4 with h4|h4
  ·rcases vw h4 with rfl|rfl|rfl|rfl
   ·cases hg
   ·exact .inl ⟨rfl,k1 g hg⟩
   ·exact .inr (.inl ⟨rfl,k2 g hg⟩)
   ·exact .inr (.inr ⟨rfl,k3 g hg⟩)
  ·rw [Raw.ik _ h4]at hg;cases hg
 refine⟨⟨gV.of hl.symm (by rw [he];exact nW _ _ _ _) h1 h2 h3,fun f g hg=>?_,fun f f' g hg hg'=>?_⟩,fun f g hg=>?_⟩
 ·rcases src f g hg with h|h|h <;> omega
 ·rcases src f g hg with h|h|h <;> rcases src f' g hg' with h'|h'|h' <;> omega
 ·rcases src f g hg with h|h|h <;> omega
theorem qm {bb nb cap j:Nat} {rs:List Raw} {t:Tr} {r:Raw} {gb bl bc o:Nat} (h:Bd M w bb (.slice (some ⟨nb,0,none⟩) rs.length cap) rs t) (kR:rs[j]?=some r) (si:t.nodes[j]?=some x) (hjl:j<rs.length) (hown:gV M w r x) (rX:r.bv = .slice (some ⟨gb,0,none⟩) bl bc)
  (hl:x.leaf=false) (h5:x.kids.length=5) (h4:x.keys.length=4) (hrow:vk x.buf) (hkr:0<=x.keys.getD 1 0/\x.keys.getD 1 0<=1099511627776) (hm:t.nodes.length<=1000000000000) (Aq:x.buf.length=bl) (eo:(if bc=ic x.buf (x.keys.getD 1 0)then some (⟨gb,0,none⟩:Addr)else some ⟨gb,ic x.buf (x.keys.getD 1 0)*7,none⟩)=some ⟨gb,o,none⟩) :
  Calls Tryd.prog 96 #[.pointer (some ⟨bb,0,none⟩), .int .i64 (j:Int)] w fun e w'=>e = .returned (.tuple #[.int .i64 t.nodes.length, .int .i64 (x.keys.getD 1 0)]) /\
   kO M bb (dE bb (.slice (some ⟨nb,0,none⟩) rs.length cap) rs) w (cH (jo t ⟨false,[],x.keys.drop 2,x.kids.drop 2,x.buf.drop (ic x.buf (x.keys.getD 1 0))⟩) j ⟨false,[],x.keys.take 1,x.kids.take 2,x.buf.take (ic x.buf (x.keys.getD 1 0))⟩) w':=by
 obtain⟨c0,k0,k1,k2,k3,k4,wm,Fa,hbl,hnl,vz⟩:=h.cells kR
 obtain⟨es,ec,hev⟩:=hown.aF.isSlice
 obtain⟨ks,kc,xZ⟩:=hown.keys.isSlice
 obtain⟨ds,dc,Be⟩:=hown.kids.isSlice
 have hok:=hown.keys
 have sH:=hown.kids
 have oN:=hown.buf
 rw [xZ]at hok
 rw [Be]at sH
 rw [rX]at oN
 obtain⟨kb,Sg,hks,-,-⟩:=World.ownsRow.form hok.row af
 injection hks with SX _ SV
 subst SX SV
 obtain⟨db,OG,hds,-,-⟩:=World.ownsRow.form sH.row af
 injection hds with Tg _ Tf
 subst Tg Tf
 have hkc:4<=kc:=by obtain⟨_,_,hv,h1,_⟩:=hok.at af;injection hv with _ _ hv3;omega
 have hdc:5<=dc:=by obtain⟨_,_,hv,h1,_⟩:=sH.at af;injection hv with _ _ hv3;omega
 have hko:=h.off j r 1 kb kR (by show r.kv.ownBlock=_;rw [xZ];rfl)
 have Th:=h.off j r 2 db kR (by show r.dv.ownBlock=_;rw [Be];rfl)
 have Bf:∀g,(Value.slice (some ⟨gb,0,none⟩) bl bc).ownBlock=some g->g≠bb/\g≠nb:=fun g hg=>by
  have:=h.off j r 3 g kR (by show r.bv.ownBlock=_;rw [rX];exact hg)
  exact⟨this.1,fun e=>this.2 (by rw [e];rfl)⟩
 have hk2:kb≠nb:=fun e=>hko.2 (by rw [e];rfl)
 have hd2:db≠nb:=fun e=>Th.2 (by rw [e];rfl)
 have hkl:kb<w.heap.size:=(hok.lt kb rfl).2
 have zq:db<w.heap.size:=(sH.lt db rfl).2
 have hM:M<=w.heap.size:=by have:=(h.lt bb (.inl rfl)).1;omega
 rw [hown.leaf,hl]at k0
 rw [hev]at k1
 rw [xZ,h4]at k2
 rw [Be,h5]at k3
 rw [rX]at k4
 have im:=fun w'=>dS (ab:=nb) (aY:=0) (n:=rs.length) (cap:=cap) (show (j:Int)=((j:Nat):Int) by rfl) hjl w'
 simp only [iM]at im
 obtain⟨key,hy⟩:∃y,x.keys[1]?=some y:=⟨x.keys[1],by simp [h4]⟩
 have IB:x.keys.getD 1 0=key:=by rw [List.getD_eq_getElem?_getD,hy];rfl
 obtain⟨_,_,_,E8,-,Sk⟩:=gu.get (hok.at af) hy
 injection E8 with E8 _ S6
 subst S6
 injection E8 with E8
 injection E8 with S8 S7
 subst S8 S7
 simp only [iM]at Sk
 rw [IB]at hkr ⊢
 rw [IB]at eo
 obtain⟨i,hi⟩:=bw (ic x.buf key)
 have hil:i<=x.buf.length:=by rw [<-hi];exact(ly hrow.1).1
 rw [hi]at eo ⊢
 obtain⟨W1,hW1⟩:=bQ (w.alloc (.cells #[.bool false, .slice es x.aF.length ec, .slice (some ⟨kb,0,none⟩) 4 kc, .slice (some ⟨db,0,none⟩) 5 dc, .slice (some ⟨gb,0,none⟩) bl bc] 119))
 have hb1:ah w W1:=by rw [hW1];exact ag
 have hz1:W1.heap.size=w.heap.size+1:=by rw [hW1];simp
 have kx:W1.heap[w.heap.size]?=some (.cells #[.bool false, .slice es x.aF.length ec, .slice (some ⟨kb,0,none⟩) 4 kc, .slice (some ⟨db,0,none⟩) 5 dc, .slice (some ⟨gb,0,none⟩) bl bc] 119):=by rw [hW1];exact aq _ _ rfl
 have Bh:=h.below hb1 aI
 have hS1:nI (dE bb (.slice (some ⟨nb,0,none⟩) rs.length cap) rs) (dE bb (.slice (some ⟨nb,0,none⟩) rs.length cap) rs) w W1:=nI.of hb1 aI
 have HX:=hdd fun(W:World) (hT:aw (fun b=>b=bb\/b=nb) W1 W)=>(by
  have e1:W.heap[w.heap.size]?=_:=(hT.block _ af (by rintro(e|e) <;> omega)).trans kx
  have e2:W.heap[kb]?=w.heap[kb]?:=(hT.block kb af (by rintro(e|e);exact hko.1 e;exact hk2 e)).trans (hb1.block kb hkl)
  have e3:W.heap[db]?=w.heap[db]?:=(hT.block db af (by rintro(e|e);exact Th.1 e;exact hd2 e)).trans (hb1.block db zq)
  have e4:∀g,(Value.slice (some ⟨gb,0,none⟩) bl bc).ownBlock=some g->W.heap[g]?=w.heap[g]?:=fun g hg=>(hT.block g (by have:=(oN.lt g hg).2;omega) (by rintro(e|e);exact(Bf g hg).1 e;exact(Bf g hg).2 e)).trans (hb1.block g (oN.lt g hg).2)
  refine⟨by simp [World.cell?,e1],by simp [World.cell?,e1],by simp [World.cell?,e1],by simp [World.cell?,e1],by rw [World.cell?_of_block (a:=⟨kb,1,none⟩) e2];exact Sk,hok.block fun g hg=>?_,sH.block fun g hg=>?_,oN.block e4⟩
  ·injection hg with hg;subst hg;exact e2
  ·injection hg with hg;subst hg;exact e3 :
  W.cell? ⟨w.heap.size,0,none⟩=some (.bool false)/\W.cell? ⟨w.heap.size,2,none⟩=some (.slice (some ⟨kb,0,none⟩) 4 kc)/\W.cell? ⟨w.heap.size,3,none⟩=some (.slice (some ⟨db,0,none⟩) 5 dc)/\W.cell? ⟨w.heap.size,4,none⟩=some (Value.slice (some ⟨gb,0,none⟩) bl bc)/\W.cell? ⟨kb,1,none⟩=some (.int .i64 key) /\
  bt M W (.slice (some ⟨kb,0,none⟩) x.keys.length kc) x.keys/\bt M W (.slice (some ⟨db,0,none⟩) x.kids.length dc) x.kids/\av M W (Value.slice (some ⟨gb,0,none⟩) bl bc) x.buf)
 have HC:=hdd fun(W:World) (hT:aw (fun b=>b=bb\/b=nb) W1 W)=>(by
  obtain⟨-,-,-,-,-,o1,o2,o3⟩:=HX.out W hT
  have a1:=rP (i:=2) o1 af af 2 (fun _=>rfl)
  have a2:=rO (i:=1) o1 af af
  have b1:=rP (i:=2) o2 af af 2 (fun _=>rfl)
  have b2:=rO (i:=2) o2 af af
  rw [h4]at a1
  rw [h5]at b1
  have hbc:x.buf.length<=bc:=by obtain⟨_,_,hv,h1,_⟩:=o3.at (by have:=hrow.2.2.2;omega);injection hv with _ _ hv3;omega
  rw [<-Aq]at o3 ⊢
  have c1:=Dg (i:=i) o3 (by have:=hrow.2.2.2;omega) hil o (fun h=>by
   by_cases hb:bc=i
   ·omega
   ·rw [ai hb]at eo;injection eo with eo;injection eo with _ hs2;exact hs2.symm)
  have c2:=De (i:=i) o3 (by have:=hrow.2.2.2;omega) hil
  exact⟨dV a1,dV b1,eV c1,dV a2,dV b2,eV c2⟩ :
  Calls Tryd.prog 92 #[.slice (some ⟨kb,2,none⟩) (4-2) (kc-2)] W (fun e w'=>∃v',e = .returned v'/\w'.ownsRow W.heap.size 3 1 v' (x.keys.drop 2).length ((x.keys.drop 2).flatMap bV)/\ah W w') /\
  Calls Tryd.prog 92 #[.slice (some ⟨db,2,none⟩) (5-2) (dc-2)] W (fun e w'=>∃v',e = .returned v'/\w'.ownsRow W.heap.size 3 1 v' (x.kids.drop 2).length ((x.kids.drop 2).flatMap bV)/\ah W w') /\
  Calls Tryd.prog 88 #[.slice (some ⟨gb,o,none⟩) (bl-i) (bc-i)] W (fun e w'=>∃v',e = .returned v'/\w'.ownsRow W.heap.size 96 7 v' (x.buf.drop i).length ((x.buf.drop i).flatMap bj)/\ah W w') /\
  Calls Tryd.prog 92 #[.slice (some ⟨kb,0,none⟩) 1 kc] W (fun e w'=>∃v',e = .returned v'/\w'.ownsRow W.heap.size 3 1 v' (x.keys.take 1).length ((x.keys.take 1).flatMap bV)/\ah W w') /\
  Calls Tryd.prog 92 #[.slice (some ⟨db,0,none⟩) 2 dc] W (fun e w'=>∃v',e = .returned v'/\w'.ownsRow W.heap.size 3 1 v' (x.kids.take 2).length ((x.kids.take 2).flatMap bV)/\ah W w') /\
  Calls Tryd.prog 88 #[.slice (some ⟨gb,0,none⟩) i bc] W (fun e w'=>∃v',e = .returned v'/\w'.ownsRow W.heap.size 96 7 v' (x.buf.take i).length ((x.buf.take i).flatMap bj)/\ah W w'))
 have H8:=hdd fun(W:World) (hT:aw (fun b=>b=bb\/b=nb) W1 W)=>(by
  have:=Ct (x:=key) ((HX.out W hT).2.2.2.2.2.2.2.at (by have:=hrow.2.2.2;omega)) hrow.1 (fun e he=>by have:=hrow.2.2.1 e he;omega)
  rw [hi]at this
  exact this:Calls Tryd.prog 94 #[.slice (some ⟨gb,0,none⟩) bl bc, .int .i64 key] W fun r w'=>r = .returned (.tuple #[.int .i64 (i:Int), .bool (qW x.buf key)])/\ah W w')
 obtain⟨hs,GF⟩:=bw (qW x.buf key)
 rw [GF]at H8
 clear GF
 obtain⟨KD,TC⟩:=bw (x.keys.drop 2)
 obtain⟨KT,TA⟩:=bw (x.keys.take 1)
 obtain⟨DD,TG⟩:=bw (x.kids.drop 2)
 obtain⟨DT,TF⟩:=bw (x.kids.take 2)
 obtain⟨BD,TI⟩:=bw (x.buf.drop i)
 obtain⟨BT,TH⟩:=bw (x.buf.take i)
 rw [TC,TA,TG,TF,TI,TH]at HC
 rw [TC,TA,TG,TF,TI,TH]
 clear TC TA TG TF TI TH
 obtain⟨i0,z0,hi0,hz0,DX,DW,DV⟩:=pS
 have hlen:rs.length=t.nodes.length:=h.len
 have hrl:rs.length<=1000000000000:=af
 have fe:=hdd (aM Bh (aM hS1 (aM kR si)))
 have hg2:¬(kc=2):=af
 have hg3:(2:Int)<=(kc:Int):=af
 have hg4:(1:Int)<=(kc:Int):=af
 have Tb:¬(dc=2):=af
 have WO:(2:Int)<=(dc:Int):=af
 have hbc:bl<=bc:=by
  rw [Aq]at hil
  have:=hrow.2.2.2
  obtain⟨_,_,hv,h1,_⟩:=oN.at af
  injection hv with _ _ hv3;omega
 have agz:bl<=20:=by rw [<-Aq];exact hrow.2.2.2
 rw [Aq]at hil
 have pj:(i:Int)<=(bl:Int):=af
 have J3:(i:Int)<=(bc:Int):=af
 have agC:i<=bc:=af
 clear Aq
 have Ea:bb<W1.heap.size:=af
 have Ww:nb<W1.heap.size:=af
 have c0':W1.cell? ⟨bb,0,none⟩=some (.slice (some ⟨nb,0,none⟩) rs.length cap):=(hb1.cell (p:=⟨bb,0,none⟩) hbl).trans c0
 obtain⟨q0,q2,q3,q4,qk,-⟩:=HX.out W1 (aw.refl _ _)
 clear h hown hev xZ Be rX hl hlen hok sH oN Bh hS1 hko Th Bf kR si IB hy Sk hrow hi hkr
 go_enter Tryd.func96,Tryd.ntmps96
 go_upto_region 2 with (fail)
 rw [<-hW1]
 clear hW1 k0 k1 k2 k3 k4 wm c0 kx
 have iL:=hdd fun(W:World) (hT:aw (fun b=>b=nb) W1 W)=>(by
  obtain⟨-,g2,g3,g4,-⟩:=HX.out W (hT.mono fun _ _ h=> .inr h)
  exact⟨(hT.cell Ea vz 0).trans c0',g2,g3,g4⟩:W.cell? ⟨bb,0,none⟩=some (.slice (some ⟨nb,0,none⟩) rs.length cap)/\W.cell? ⟨w.heap.size,2,none⟩=some (.slice (some ⟨kb,0,none⟩) 4 kc)/\W.cell? ⟨w.heap.size,3,none⟩=some (.slice (some ⟨db,0,none⟩) 5 dc)/\W.cell? ⟨w.heap.size,4,none⟩=some (Value.slice (some ⟨gb,0,none⟩) bl bc))
 clear c0'
 go_wp2_with ((go_at_call 94;(with_reducible refine(H8.out _ (aw.refl _ _)).mono ?_);rintro e w2 ⟨rfl,hb2⟩))
 clear q0 q2 q3 q4 qk
 have T2:aw (fun b=>b=nb) W1 w2:=aw.of hb2 aI
 have T0:aw (fun b=>b=nb) W1 w2.drew:=T2.drew
 refine bI [(0,1),(1,1),(2,1),(3,1),(4,1),(5,0),(6,1),(7,0),(8,1),(9,1),(11,1),(12,0),(13,1),(14,1),(16,1),(17,0),(18,1),(19,1),(10,2),(15,2),(20,2),(21,1),(22,2),(23,2),(24,1),(25,1),(26,1),(27,3)] 27 (fun W=>W.cell? ⟨bb,0,none⟩=some (.slice (some ⟨nb,0,none⟩) rs.length cap)/\W.cell? ⟨w.heap.size,2,none⟩=some (.slice (some ⟨kb,0,none⟩) 4 kc)/\W.cell? ⟨w.heap.size,3,none⟩=some (.slice (some ⟨db,0,none⟩) 5 dc)/\W.cell? ⟨w.heap.size,4,none⟩=some (Value.slice (some ⟨gb,0,none⟩) bl bc)) cy cy (iL.out _ T0) ?_
 (simp only [bF,List.filterMap_cons,List.filterMap_nil,List.getElem?_cons_zero,List.getElem?_cons_succ,Option.map_some])
 (repeat first|refine bg ?_|refine aZ ?_)
 refine aS rfl (fun K hK=>?_)
 go_simp
 (with_reducible refine(HC.out _ (T0.mono fun _ _ h=> .inr h)).1.mono ?_);rintro e w3 ⟨v3,rfl,kY,hb3⟩
 obtain⟨s3,c3,rfl⟩:=(bt.mk kY).isSlice
 have T3:aw (fun b=>b=nb) W1 w3:=T0.trans (aw.of hb3 aI)
 go_simp
 refine hK _ _ (iL.out _ T3) ?_
 clear hK K
 (repeat first|refine bg ?_|refine aZ ?_)
 refine aS rfl (fun K hK=>?_)
 go_simp
 (with_reducible refine(HC.out _ (T3.mono fun _ _ h=> .inr h)).2.1.mono ?_);rintro e w4 ⟨v4,rfl,xX,hb4⟩
 obtain⟨s4,c4,rfl⟩:=(bt.mk xX).isSlice
 have T4:aw (fun b=>b=nb) W1 w4:=T3.trans (aw.of hb4 aI)
 go_simp
 refine hK _ _ (iL.out _ T4) ?_
 clear hK K
 (repeat first|refine bg ?_|refine aZ ?_)
 refine aS rfl (fun K hK=>?_)
 go_simp
 (with_reducible refine(HC.out _ (T4.mono fun _ _ h=> .inr h)).2.2.1.mono ?_);rintro e w5 ⟨v5,rfl,iD,cx⟩
 obtain⟨s5,c5,rfl⟩:=(av.mk iD).isSlice
 have T5:aw (fun b=>b=nb) W1 w5:=T4.trans (aw.of cx aI)
 go_simp
 refine hK _ _ (iL.out _ T5) ?_
 clear hK K
 (repeat first|refine bg ?_|refine aZ ?_)
 refine aS rfl (fun K hK=>?_)
 go_simp
 obtain⟨W6,tU⟩:=bQ (w5.alloc (.cells #[.bool false, .slice none 0 0, .slice s3 KD.length c3, .slice s4 DD.length c4, .slice s5 BD.length c5] 119))
 have jY:ah w5 W6:=by rw [tU];exact ag
 have k6:W6.heap[w5.heap.size]?=some (.cells #[.bool false, .slice none 0 0, .slice s3 KD.length c3, .slice s4 DD.length c4, .slice s5 BD.length c5] 119):=by rw [tU];exact aq _ _ rfl
 have uC:W6.heap.size=w5.heap.size+1:=by rw [tU];simp
 rw [<-tU]
 have T6:aw (fun b=>b=nb) W1 W6:=T5.trans (aw.of jY aI)
 refine hK _ _ (iL.out _ T6) ?_
 clear hK K tU
 have z2:W1.heap.size<=w2.heap.size:=T2.size
 have z3:w2.heap.size<=w3.heap.size:=hb3.size
 have z4:w3.heap.size<=w4.heap.size:=hb4.size
 have z5:w4.heap.size<=w5.heap.size:=cx.size
 have B3:ah w2 w3:=⟨hb3.os,hb3.tape,hb3.output,hb3.size,hb3.block⟩
 have B6:ah W1 W6:=Below.trans' (Below.trans' (Below.trans' (Below.trans' hb2 B3 z2) hb4 af) cx af) jY af
 have xm:=(fe.out.1.below B6 aI).row
 refine aS rfl (fun K hK=>?_)
 refine wp_append_lies _ (.tmp 108) (.tmp 125) 30 rfl M 119 i0 z0 5 104 Tryd.underlying30 hi0 hz0 DX DW DV aW _ rs.length _ rfl xm ⟨w5.heap.size,0,none⟩ 1 1 (cL ⟨false, .slice none 0 0, .slice s3 KD.length c3, .slice s4 DD.length c4, .slice s5 BD.length c5⟩) rfl rfl (World.news_of_block k6) ?hone aW (by unfold maxLen;omega) af af W6.heap.size rfl ?_
 case hone=>
  intro u hu
  simp [cL]at hu
  rcases hu with rfl|rfl|rfl|rfl|rfl <;> rfl
 intro g cap' w7 xj uG Q7 ME
 have T7:aw (fun b=>b=nb) W1 w7:=aw.grown T6 uG (fun k hk=> .inl (by injection hk with hk;exact hk.symm))
 refine hK _ _ (iL.out _ T7) ?_
 clear hK K
 have vV:g=nb\/g=W6.heap.size:=Q7.imp (fun h=>(dw h).symm) id
 have DU:=uG.size
 have uA:∀b,W1.heap.size<=b->b<w5.heap.size->w7.heap[b]?=w5.heap[b]?:=fun b h1 h2=>(uG.block b af (fun e=>by have e:b=nb:=dw e;omega)).trans (jY.block b h2)
 have p3:∀g,(Value.slice s3 KD.length c3).ownBlock=some g->w2.heap.size<=g/\g<w3.heap.size:=fun g hg=>(kY.lt g hg)
 have p4:∀g,(Value.slice s4 DD.length c4).ownBlock=some g->w3.heap.size<=g/\g<w4.heap.size:=fun g hg=>xX.lt g hg
 have p5:∀g,(Value.slice s5 BD.length c5).ownBlock=some g->w4.heap.size<=g/\g<w5.heap.size:=fun g hg=>iD.lt g hg
 have o3:w7.ownsRow M 3 1 (.slice s3 KD.length c3) KD.length (KD.flatMap bV):=bX (cP kY (by show M<=w2.heap.size;omega)) fun b hb=>by
  have:=p3 b hb
  exact(uA b af af).trans ((cx.block b af).trans (hb4.block b af))
 have o4:w7.ownsRow M 3 1 (.slice s4 DD.length c4) DD.length (DD.flatMap bV):=bX (cP xX af) fun b hb=>by
  have:=p4 b hb
  exact(uA b af af).trans (cx.block b af)
 have o5:w7.ownsRow M 96 7 (.slice s5 BD.length c5) BD.length (BD.flatMap bj):=bX (cP iD af) fun b hb=>by
  have:=p5 b hb
  exact uA b af af
 obtain⟨ye,WQ⟩:=Ck (M:=M) (H:=W1.heap.size) (w:=w7) (lf:=false) (x:=⟨false,[],KD,DD,BD⟩) (v1:= .slice s3 KD.length c3) (v2:= .slice s4 DD.length c4) (v3:= .slice s5 BD.length c5) (a:=w3.heap.size) (b:=w4.heap.size) (c:=w5.heap.size) rfl rfl o3 o4 o5 (fun g hg=>by have:=p3 g hg;omega) p4 p5 af z4 z5 af
 have iY:=hdd (fe.out.1.push (w1:=w7) (kX:= .slice (some ⟨g,0,none⟩) (rs.length+1) cap') (T7.mono fun b _ h=>by rw [h];rfl) xj (fun b hb=>by
   have hb:g=b:=dw hb
   subst hb
   rcases vV with e|e
   ·left;rw [e];rfl
   ·right;rw [e];omega) ye (fun f b hb e=>by
   have e:g=b:=dw e
   have:=WQ f b hb
   rcases vV with e'|e' <;> omega))
 obtain⟨d0,-⟩:=iL.out _ T7
 have d1:w7.frozen? ⟨bb,0,none⟩=false:=(T7.frozen Ea vz 0).trans ((hb1.frozen (p:=⟨bb,0,none⟩) hbl).trans (Fa 0))
 (repeat first|refine bg ?_|refine aZ ?_)
 refine bp rfl (fun K hK=>?_)
 go_simp
 refine hK _ _ ?_
 clear hK K
 refine cv ?_
 have T8:aw (fun b=>b=bb\/b=nb) W1 (w7.setCell ⟨bb,0,none⟩ (.slice (some ⟨g,0,none⟩) (rs.length+1) cap')):=(T7.mono fun _ _ h=> .inr h).setCell (.inl (.inl rfl)) _
 generalize w7.setCell ⟨bb,0,none⟩ (.slice (some ⟨g,0,none⟩) (rs.length+1) cap')=W8 at iY T8 ⊢
 have hgX:w.heap.size≠g:=by
  rcases vV with e|e
  ·rw [e];omega
  ·omega
 have Ox:∃rn:Raw,(⟨false, .slice none 0 0, .slice s3 KD.length c3, .slice s4 DD.length c4, .slice s5 BD.length c5⟩:Raw)=rn:=⟨_,rfl⟩
 obtain⟨rn,Ox⟩:=Ox
 rw [Ox]at iY
 clear iL T0 T2 T3 T4 T5 T6 T7 hb2 hb3 hb4 cx kY xX iD jY B3 B6 xm k6 xj uG Q7 ME d0 d1 uA p3 p4 p5 o3 o4 o5 ye WQ Ox z2 z3 z4 z5 uC DU vV
 have D5:(rs++[rn])[j]?=some r:=by rw [zP hjl];exact fe.out.2.2.1
 have OA:(rs++[rn]).length=rs.length+1:=bq
 have hcells:=iY.out.1
 rw [<-OA]at hcells
 obtain⟨e0,-,-,-,-,-,Rm,-,e2,e3,e4⟩:=hcells.cells D5
 obtain⟨f0,f1,f2,f3,f4,-⟩:=hcells.cells D5 |>.2
 rw [OA]at e0
 have MJ:=fun w'=>dS (ab:=g) (aY:=0) (n:=rs.length+1) (cap:=cap') (show (j:Int)=((j:Nat):Int) by rfl) af w'
 simp only [iM]at MJ
 have iL:=hdd fun(W:World) (hT:ah W8 W)=>(by
  obtain⟨-,g2,g3,g4,-⟩:=HX.out W (T8.trans (aw.of hT aI))
  exact⟨(hT.cell (p:=⟨bb,0,none⟩) e2).trans e0,g2,g3,g4⟩:W.cell? ⟨bb,0,none⟩=some (.slice (some ⟨g,0,none⟩) (rs.length+1) cap')/\W.cell? ⟨w.heap.size,2,none⟩=some (.slice (some ⟨kb,0,none⟩) 4 kc)/\W.cell? ⟨w.heap.size,3,none⟩=some (.slice (some ⟨db,0,none⟩) 5 dc)/\W.cell? ⟨w.heap.size,4,none⟩=some (Value.slice (some ⟨gb,0,none⟩) bl bc))
 have T0:ah W8 W8.drew:=(aJ _ _).drew
 have UC:=hdd Rm
 have UD:=hdd (aM f0 (aM f1 (aM f2 (aM f3 f4))))
 have Yl:=hdd hcells
 have aaf:IntKind.i64.wrap (1:Int)=1:=IntWalk.i64_in _ af
 clear hcells e0 Rm im f0 f1 f2 f3 f4
 go_wp2_with fail
 refine bI [(0,1),(1,1),(2,1),(3,1),(4,0),(5,1),(6,1),(7,0),(8,1),(9,1),(10,1),(12,1),(13,0),(14,1),(15,1),(17,1),(18,0),(19,1),(20,1),(11,2),(16,2),(21,2),(22,1),(23,1),(24,3)] 24 (fun W=>W.cell? ⟨bb,0,none⟩=some (.slice (some ⟨g,0,none⟩) (rs.length+1) cap')/\W.cell? ⟨w.heap.size,2,none⟩=some (.slice (some ⟨kb,0,none⟩) 4 kc)/\W.cell? ⟨w.heap.size,3,none⟩=some (.slice (some ⟨db,0,none⟩) 5 dc)/\W.cell? ⟨w.heap.size,4,none⟩=some (Value.slice (some ⟨gb,0,none⟩) bl bc)) cy cy (iL.out _ T0) ?_
 (simp only [bF,List.filterMap_cons,List.filterMap_nil,List.getElem?_cons_zero,List.getElem?_cons_succ,Option.map_some])
 (repeat first|refine bg ?_|refine aZ ?_)
 refine aS rfl (fun K hK=>?_)
 go_simp
 (with_reducible refine(HC.out _ (T8.trans (aw.of T0 aI))).2.2.2.1.mono ?_);rintro e w3 ⟨v3,rfl,kY,hb3⟩
 obtain⟨s3,c3,rfl⟩:=(bt.mk kY).isSlice
 have B3:ah W8 w3:=Below.trans' T0 hb3 aI
 go_simp
 refine hK _ _ (iL.out _ B3) ?_
 clear hK K
 (repeat first|refine bg ?_|refine aZ ?_)
 refine aS rfl (fun K hK=>?_)
 go_simp
 (with_reducible refine(HC.out _ (T8.trans (aw.of B3 aI))).2.2.2.2.1.mono ?_);rintro e w4 ⟨v4,rfl,xX,hb4⟩
 obtain⟨s4,c4,rfl⟩:=(bt.mk xX).isSlice
 have B4:ah W8 w4:=Below.trans' B3 hb4 B3.size
 go_simp
 refine hK _ _ (iL.out _ B4) ?_
 clear hK K
 (repeat first|refine bg ?_|refine aZ ?_)
 refine aS rfl (fun K hK=>?_)
 go_simp
 (with_reducible refine(HC.out _ (T8.trans (aw.of B4 aI))).2.2.2.2.2.mono ?_);rintro e w5 ⟨v5,rfl,iD,cx⟩
 obtain⟨s5,c5,rfl⟩:=(av.mk iD).isSlice
 have B5:ah W8 w5:=Below.trans' B4 cx B4.size
 go_simp
 refine hK _ _ (iL.out _ B5) ?_
 clear hK K
 have DN:=T8.size
 have z3:W8.heap.size<=w3.heap.size:=hb3.size
 have z4:w3.heap.size<=w4.heap.size:=hb4.size
 have z5:w4.heap.size<=w5.heap.size:=cx.size
 have p3:∀g,(Value.slice s3 KT.length c3).ownBlock=some g->W8.heap.size<=g/\g<w3.heap.size:=fun g hg=>(kY.lt g hg)
 have p4:∀g,(Value.slice s4 DT.length c4).ownBlock=some g->w3.heap.size<=g/\g<w4.heap.size:=fun g hg=>xX.lt g hg
 have p5:∀g,(Value.slice s5 BT.length c5).ownBlock=some g->w4.heap.size<=g/\g<w5.heap.size:=fun g hg=>iD.lt g hg
 have o3:w5.ownsRow M 3 1 (.slice s3 KT.length c3) KT.length (KT.flatMap bV):=bX (cP kY (by show M<=W8.heap.size;omega)) fun b hb=>by
  have:=p3 b hb
  exact(cx.block b af).trans (hb4.block b af)
 have o4:w5.ownsRow M 3 1 (.slice s4 DT.length c4) DT.length (DT.flatMap bV):=bX (cP xX af) fun b hb=>by
  have:=p4 b hb
  exact cx.block b af
 have o5:w5.ownsRow M 96 7 (.slice s5 BT.length c5) BT.length (BT.flatMap bj):=cP iD af
 obtain⟨ye,-⟩:=Ck (M:=M) (H:=W8.heap.size) (w:=w5) (lf:=false) (x:=⟨false,[],KT,DT,BT⟩) (v1:= .slice s3 KT.length c3) (v2:= .slice s4 DT.length c4) (v3:= .slice s5 BT.length c5) (a:=w3.heap.size) (b:=w4.heap.size) (c:=w5.heap.size) rfl rfl o3 o4 o5 p3 p4 p5 z3 z4 z5 aI
 have Uf:=hdd (Yl.out.whole (n:=j) rfl (by rw [OA];omega) B5 ye)
 obtain⟨m0,m1,m2,m3,m4⟩:=UD.out
 have d0:=(B5.cell (p:=⟨g,_,none⟩) e3).trans m0
 have d1:=(B5.cell (p:=⟨g,_,none⟩) e3).trans m1
 have d2:=(B5.cell (p:=⟨g,_,none⟩) e3).trans m2
 have d3:=(B5.cell (p:=⟨g,_,none⟩) e3).trans m3
 have d4:=(B5.cell (p:=⟨g,_,none⟩) e3).trans m4
 have df:∀o,w5.frozen? ⟨g,o,none⟩=false:=fun o=>(B5.frozen (p:=⟨g,_,none⟩) e3).trans (UC.out _)
 have c9:=(iL.out _ B5).1
 clear m0 m1 m2 m3 m4 iL kY xX iD hb3 hb4 cx B3 B4 B5 p3 p4 p5 o3 o4 o5 ye T0 T8 HC HX H8
 (repeat first|refine bg ?_|refine aZ ?_)
 refine bp rfl (fun K hK=>?_)
 go_simp
 refine hK _ _ ?_
 clear hK K
 refine cv ?_
 have f0:(((((w5.setCell ⟨g,j*5,none⟩ (.bool false)).setCell ⟨g,j*5+1,none⟩ (.slice none 0 0)).setCell ⟨g,j*5+2,none⟩ (.slice s3 KT.length c3)).setCell ⟨g,j*5+3,none⟩ (.slice s4 DT.length c4)).setCell ⟨g,j*5+4,none⟩ (.slice s5 BT.length c5)).cell? ⟨bb,0,none⟩=some (.slice (some ⟨g,0,none⟩) (rs.length+1) cap'):=by
  rw [World.cell?_of_block (a:=⟨bb,0,none⟩) (lF e4)];exact c9
 generalize ((((w5.setCell ⟨g,j*5,none⟩ (.bool false)).setCell ⟨g,j*5+1,none⟩ (.slice none 0 0)).setCell ⟨g,j*5+2,none⟩ (.slice s3 KT.length c3)).setCell ⟨g,j*5+3,none⟩ (.slice s4 DT.length c4)).setCell ⟨g,j*5+4,none⟩ (.slice s5 BT.length c5)=WA at Uf f0 ⊢
 clear d0 d1 d2 d3 d4 df c9
 have hw0:IntKind.i64.wrap ((rs.length:Int)+1-1)=(rs.length:Int)+1-1:=IntWalk.i64_in _ af
 have hw1:IntKind.i64.wrap ((rs.length:Int)+1-1)=(rs.length:Int):=by rw [hw0];omega
 clear hw0
 have hlen:rs.length=t.nodes.length:=fe.out.1.len
 go_wp2
 go_ret2
 exact⟨rfl,_,_,Uf.out.1.below (show ah WA _ from ag) aI,((fe.out.2.1.trans iY.out.2).trans Uf.out.2).trans (nI.of (show ah WA _ from ag) aI)⟩
end
section
set_option maxRecDepth 100000
set_option maxHeartbeats 6000000
theorem xH {M:Nat} {w:World} {bb nb cap j:Nat} {rs:List Raw} {t:Tr} {x:Nd} {r:Raw} (h:Bd M w bb (.slice (some ⟨nb,0,none⟩) rs.length cap) rs t) (kR:rs[j]?=some r) (si:t.nodes[j]?=some x) (hjl:j<rs.length) (hown:gV M w r x) (rX:r.bv = .slice none 0 0)
  (hl:x.leaf=false) (h5:x.kids.length=5) (h4:x.keys.length=4) (hrow:vk x.buf) (hkr:0<=x.keys.getD 1 0/\x.keys.getD 1 0<=1099511627776) (hm:t.nodes.length<=1000000000000) (Aq:x.buf=[]) :
  Calls Tryd.prog 96 #[.pointer (some ⟨bb,0,none⟩), .int .i64 (j:Int)] w fun e w'=>e = .returned (.tuple #[.int .i64 t.nodes.length, .int .i64 (x.keys.getD 1 0)]) /\
   kO M bb (dE bb (.slice (some ⟨nb,0,none⟩) rs.length cap) rs) w (cH (jo t ⟨false,[],x.keys.drop 2,x.kids.drop 2,x.buf.drop (ic x.buf (x.keys.getD 1 0))⟩) j ⟨false,[],x.keys.take 1,x.kids.take 2,x.buf.take (ic x.buf (x.keys.getD 1 0))⟩) w':=by
 obtain⟨c0,k0,k1,k2,k3,k4,wm,Fa,hbl,hnl,vz⟩:=h.cells kR
 obtain⟨es,ec,hev⟩:=hown.aF.isSlice
 obtain⟨ks,kc,xZ⟩:=hown.keys.isSlice
 obtain⟨ds,dc,Be⟩:=hown.kids.isSlice
 have hok:=hown.keys
 have sH:=hown.kids
 have oN:=hown.buf
 rw [xZ]at hok
 rw [Be]at sH
 rw [rX]at oN
 obtain⟨kb,Sg,hks,-,-⟩:=World.ownsRow.form hok.row af
 injection hks with SX _ SV
 subst SX SV
 obtain⟨db,OG,hds,-,-⟩:=World.ownsRow.form sH.row af
 injection hds with Tg _ Tf
 subst Tg Tf
 have hkc:4<=kc:=by obtain⟨_,_,hv,h1,_⟩:=hok.at af;injection hv with _ _ hv3;omega
 have hdc:5<=dc:=by obtain⟨_,_,hv,h1,_⟩:=sH.at af;injection hv with _ _ hv3;omega
 have hko:=h.off j r 1 kb kR (by show r.kv.ownBlock=_;rw [xZ];rfl)
 have Th:=h.off j r 2 db kR (by show r.dv.ownBlock=_;rw [Be];rfl)
 have Bf:∀g,(Value.slice none 0 0).ownBlock=some g->g≠bb/\g≠nb:=fun g hg=>by
  have:=h.off j r 3 g kR (by show r.bv.ownBlock=_;rw [rX];exact hg)
  exact⟨this.1,fun e=>this.2 (by rw [e];rfl)⟩
 have hk2:kb≠nb:=fun e=>hko.2 (by rw [e];rfl)
 have hd2:db≠nb:=fun e=>Th.2 (by rw [e];rfl)
 have hkl:kb<w.heap.size:=(hok.lt kb rfl).2
 have zq:db<w.heap.size:=(sH.lt db rfl).2
 have hM:M<=w.heap.size:=by have:=(h.lt bb (.inl rfl)).1;omega
 rw [hown.leaf,hl]at k0
 rw [hev]at k1
 rw [xZ,h4]at k2
 rw [Be,h5]at k3
 rw [rX]at k4
 have im:=fun w'=>dS (ab:=nb) (aY:=0) (n:=rs.length) (cap:=cap) (show (j:Int)=((j:Nat):Int) by rfl) hjl w'
 simp only [iM]at im
 obtain⟨key,hy⟩:∃y,x.keys[1]?=some y:=⟨x.keys[1],by simp [h4]⟩
 have IB:x.keys.getD 1 0=key:=by rw [List.getD_eq_getElem?_getD,hy];rfl
 obtain⟨_,_,_,E8,-,Sk⟩:=gu.get (hok.at af) hy
 injection E8 with E8 _ S6
 subst S6
 injection E8 with E8
 injection E8 with S8 S7
 subst S8 S7
 simp only [iM]at Sk
 rw [IB]at hkr ⊢
 obtain⟨i,hi⟩:=bw (ic x.buf key)
 have hil:i<=x.buf.length:=by rw [<-hi];exact(ly hrow.1).1
 rw [hi]
 obtain⟨W1,hW1⟩:=bQ (w.alloc (.cells #[.bool false, .slice es x.aF.length ec, .slice (some ⟨kb,0,none⟩) 4 kc, .slice (some ⟨db,0,none⟩) 5 dc, .slice none 0 0] 119))
 have hb1:ah w W1:=by rw [hW1];exact ag
 have hz1:W1.heap.size=w.heap.size+1:=by rw [hW1];simp
 have kx:W1.heap[w.heap.size]?=some (.cells #[.bool false, .slice es x.aF.length ec, .slice (some ⟨kb,0,none⟩) 4 kc, .slice (some ⟨db,0,none⟩) 5 dc, .slice none 0 0] 119):=by rw [hW1];exact aq _ _ rfl
 have Bh:=h.below hb1 aI
 have hS1:nI (dE bb (.slice (some ⟨nb,0,none⟩) rs.length cap) rs) (dE bb (.slice (some ⟨nb,0,none⟩) rs.length cap) rs) w W1:=nI.of hb1 aI
 have HX:=hdd fun(W:World) (hT:aw (fun b=>b=bb\/b=nb) W1 W)=>(by
  have e1:W.heap[w.heap.size]?=_:=(hT.block _ af (by rintro(e|e) <;> omega)).trans kx
  have e2:W.heap[kb]?=w.heap[kb]?:=(hT.block kb af (by rintro(e|e);exact hko.1 e;exact hk2 e)).trans (hb1.block kb hkl)
  have e3:W.heap[db]?=w.heap[db]?:=(hT.block db af (by rintro(e|e);exact Th.1 e;exact hd2 e)).trans (hb1.block db zq)
  have e4:∀g,(Value.slice none 0 0).ownBlock=some g->W.heap[g]?=w.heap[g]?:=fun g hg=>(hT.block g (by have:=(oN.lt g hg).2;omega) (by rintro(e|e);exact(Bf g hg).1 e;exact(Bf g hg).2 e)).trans (hb1.block g (oN.lt g hg).2)
  refine⟨by simp [World.cell?,e1],by simp [World.cell?,e1],by simp [World.cell?,e1],by simp [World.cell?,e1],by rw [World.cell?_of_block (a:=⟨kb,1,none⟩) e2];exact Sk,hok.block fun g hg=>?_,sH.block fun g hg=>?_,oN.block e4⟩
  ·injection hg with hg;subst hg;exact e2
  ·injection hg with hg;subst hg;exact e3 :
  W.cell? ⟨w.heap.size,0,none⟩=some (.bool false)/\W.cell? ⟨w.heap.size,2,none⟩=some (.slice (some ⟨kb,0,none⟩) 4 kc)/\W.cell? ⟨w.heap.size,3,none⟩=some (.slice (some ⟨db,0,none⟩) 5 dc)/\W.cell? ⟨w.heap.size,4,none⟩=some (.slice none 0 0)/\W.cell? ⟨kb,1,none⟩=some (.int .i64 key) /\
  bt M W (.slice (some ⟨kb,0,none⟩) x.keys.length kc) x.keys/\bt M W (.slice (some ⟨db,0,none⟩) x.kids.length dc) x.kids/\av M W (.slice none 0 0) x.buf)
 have HC:=hdd fun(W:World) (hT:aw (fun b=>b=bb\/b=nb) W1 W)=>(by
  obtain⟨-,-,-,-,-,o1,o2,o3⟩:=HX.out W hT
  have a1:=rP (i:=2) o1 af af 2 (fun _=>rfl)
  have a2:=rO (i:=1) o1 af af
  have b1:=rP (i:=2) o2 af af 2 (fun _=>rfl)
  have b2:=rO (i:=2) o2 af af
  rw [h4]at a1
  rw [h5]at b1
  have c1:eQ W (.slice none 0 0) (x.buf.drop i):=by rw [Aq,List.drop_nil];exact dN.nil _ _ _ _
  have c2:eQ W (.slice none 0 0) (x.buf.take i):=by rw [Aq,List.take_nil];exact dN.nil _ _ _ _
  exact⟨dV a1,dV b1,eV c1,dV a2,dV b2,eV c2⟩ :
  Calls Tryd.prog 92 #[.slice (some ⟨kb,2,none⟩) (4-2) (kc-2)] W (fun e w'=>∃v',e = .returned v'/\w'.ownsRow W.heap.size 3 1 v' (x.keys.drop 2).length ((x.keys.drop 2).flatMap bV)/\ah W w') /\
  Calls Tryd.prog 92 #[.slice (some ⟨db,2,none⟩) (5-2) (dc-2)] W (fun e w'=>∃v',e = .returned v'/\w'.ownsRow W.heap.size 3 1 v' (x.kids.drop 2).length ((x.kids.drop 2).flatMap bV)/\ah W w') /\
  Calls Tryd.prog 88 #[.slice none 0 0] W (fun e w'=>∃v',e = .returned v'/\w'.ownsRow W.heap.size 96 7 v' (x.buf.drop i).length ((x.buf.drop i).flatMap bj)/\ah W w') /\
  Calls Tryd.prog 92 #[.slice (some ⟨kb,0,none⟩) 1 kc] W (fun e w'=>∃v',e = .returned v'/\w'.ownsRow W.heap.size 3 1 v' (x.keys.take 1).length ((x.keys.take 1).flatMap bV)/\ah W w') /\
  Calls Tryd.prog 92 #[.slice (some ⟨db,0,none⟩) 2 dc] W (fun e w'=>∃v',e = .returned v'/\w'.ownsRow W.heap.size 3 1 v' (x.kids.take 2).length ((x.kids.take 2).flatMap bV)/\ah W w') /\
  Calls Tryd.prog 88 #[.slice none 0 0] W (fun e w'=>∃v',e = .returned v'/\w'.ownsRow W.heap.size 96 7 v' (x.buf.take i).length ((x.buf.take i).flatMap bj)/\ah W w'))
 have H8:=hdd fun(W:World) (hT:aw (fun b=>b=bb\/b=nb) W1 W)=>(by
  have:=Ct (x:=key) ((HX.out W hT).2.2.2.2.2.2.2.at (by have:=hrow.2.2.2;omega)) hrow.1 (fun e he=>by have:=hrow.2.2.1 e he;omega)
  rw [hi]at this
  exact this:Calls Tryd.prog 94 #[.slice none 0 0, .int .i64 key] W fun r w'=>r = .returned (.tuple #[.int .i64 (i:Int), .bool (qW x.buf key)])/\ah W w')
 obtain⟨hs,GF⟩:=bw (qW x.buf key)
 rw [GF]at H8
 clear GF
 obtain⟨KD,TC⟩:=bw (x.keys.drop 2)
 obtain⟨KT,TA⟩:=bw (x.keys.take 1)
 obtain⟨DD,TG⟩:=bw (x.kids.drop 2)
 obtain⟨DT,TF⟩:=bw (x.kids.take 2)
 obtain⟨BD,TI⟩:=bw (x.buf.drop i)
 obtain⟨BT,TH⟩:=bw (x.buf.take i)
 rw [TC,TA,TG,TF,TI,TH]at HC
 rw [TC,TA,TG,TF,TI,TH]
 clear TC TA TG TF TI TH
 obtain⟨i0,z0,hi0,hz0,DX,DW,DV⟩:=pS
 have hlen:rs.length=t.nodes.length:=h.len
 have hrl:rs.length<=1000000000000:=af
 have fe:=hdd (aM Bh (aM hS1 (aM kR si)))
 have hg2:¬(kc=2):=af
 have hg3:(2:Int)<=(kc:Int):=af
 have hg4:(1:Int)<=(kc:Int):=af
 have Tb:¬(dc=2):=af
 have WO:(2:Int)<=(dc:Int):=af
 have hi9:i=0:=by rw [Aq]at hil;simpa using hil
 subst hi9
 clear Aq hil
 have Ea:bb<W1.heap.size:=af
 have Ww:nb<W1.heap.size:=af
 have c0':W1.cell? ⟨bb,0,none⟩=some (.slice (some ⟨nb,0,none⟩) rs.length cap):=(hb1.cell (p:=⟨bb,0,none⟩) hbl).trans c0
 obtain⟨q0,q2,q3,q4,qk,-⟩:=HX.out W1 (aw.refl _ _)
 clear h hown hev xZ Be rX hl hlen hok sH oN Bh hS1 hko Th Bf kR si IB hy Sk hrow hi hkr
 go_enter Tryd.func96,Tryd.ntmps96
 go_upto_region 2 with (fail)
 rw [<-hW1]
 clear hW1 k0 k1 k2 k3 k4 wm c0 kx
 have iL:=hdd fun(W:World) (hT:aw (fun b=>b=nb) W1 W)=>(by
  obtain⟨-,g2,g3,g4,-⟩:=HX.out W (hT.mono fun _ _ h=> .inr h)
  exact⟨(hT.cell Ea vz 0).trans c0',g2,g3,g4⟩:W.cell? ⟨bb,0,none⟩=some (.slice (some ⟨nb,0,none⟩) rs.length cap)/\W.cell? ⟨w.heap.size,2,none⟩=some (.slice (some ⟨kb,0,none⟩) 4 kc)/\W.cell? ⟨w.heap.size,3,none⟩=some (.slice (some ⟨db,0,none⟩) 5 dc)/\W.cell? ⟨w.heap.size,4,none⟩=some (.slice none 0 0))
 clear c0'
 go_wp2_with ((go_at_call 94;(with_reducible refine(H8.out _ (aw.refl _ _)).mono ?_);rintro e w2 ⟨rfl,hb2⟩))
 clear q0 q2 q3 q4 qk
 have T2:aw (fun b=>b=nb) W1 w2:=aw.of hb2 aI
 have T0:aw (fun b=>b=nb) W1 w2.drew:=T2.drew
 refine bI [(0,1),(1,1),(2,1),(3,1),(4,1),(5,0),(6,1),(7,0),(8,1),(9,1),(11,1),(12,0),(13,1),(14,1),(16,1),(17,0),(18,1),(19,1),(10,2),(15,2),(20,2),(21,1),(22,2),(23,2),(24,1),(25,1),(26,1),(27,3)] 27 (fun W=>W.cell? ⟨bb,0,none⟩=some (.slice (some ⟨nb,0,none⟩) rs.length cap)/\W.cell? ⟨w.heap.size,2,none⟩=some (.slice (some ⟨kb,0,none⟩) 4 kc)/\W.cell? ⟨w.heap.size,3,none⟩=some (.slice (some ⟨db,0,none⟩) 5 dc)/\W.cell? ⟨w.heap.size,4,none⟩=some (.slice none 0 0)) cy cy (iL.out _ T0) ?_
 (simp only [bF,List.filterMap_cons,List.filterMap_nil,List.getElem?_cons_zero,List.getElem?_cons_succ,Option.map_some])
 (repeat first|refine bg ?_|refine aZ ?_)
 refine aS rfl (fun K hK=>?_)
 go_simp
 (with_reducible refine(HC.out _ (T0.mono fun _ _ h=> .inr h)).1.mono ?_);rintro e w3 ⟨v3,rfl,kY,hb3⟩
 obtain⟨s3,c3,rfl⟩:=(bt.mk kY).isSlice
 have T3:aw (fun b=>b=nb) W1 w3:=T0.trans (aw.of hb3 aI)
 go_simp
 refine hK _ _ (iL.out _ T3) ?_
 clear hK K
 (repeat first|refine bg ?_|refine aZ ?_)
 refine aS rfl (fun K hK=>?_)
 go_simp
 (with_reducible refine(HC.out _ (T3.mono fun _ _ h=> .inr h)).2.1.mono ?_);rintro e w4 ⟨v4,rfl,xX,hb4⟩
 obtain⟨s4,c4,rfl⟩:=(bt.mk xX).isSlice
 have T4:aw (fun b=>b=nb) W1 w4:=T3.trans (aw.of hb4 aI)
 go_simp
 refine hK _ _ (iL.out _ T4) ?_
 clear hK K
 (repeat first|refine bg ?_|refine aZ ?_)
 refine aS rfl (fun K hK=>?_)
 go_simp
 (with_reducible refine(HC.out _ (T4.mono fun _ _ h=> .inr h)).2.2.1.mono ?_);rintro e w5 ⟨v5,rfl,iD,cx⟩
 obtain⟨s5,c5,rfl⟩:=(av.mk iD).isSlice
 have T5:aw (fun b=>b=nb) W1 w5:=T4.trans (aw.of cx aI)
 go_simp
 refine hK _ _ (iL.out _ T5) ?_
 clear hK K
 (repeat first|refine bg ?_|refine aZ ?_)
 refine aS rfl (fun K hK=>?_)
 go_simp
 obtain⟨W6,tU⟩:=bQ (w5.alloc (.cells #[.bool false, .slice none 0 0, .slice s3 KD.length c3, .slice s4 DD.length c4, .slice s5 BD.length c5] 119))
 have jY:ah w5 W6:=by rw [tU];exact ag
 have k6:W6.heap[w5.heap.size]?=some (.cells #[.bool false, .slice none 0 0, .slice s3 KD.length c3, .slice s4 DD.length c4, .slice s5 BD.length c5] 119):=by rw [tU];exact aq _ _ rfl
 have uC:W6.heap.size=w5.heap.size+1:=by rw [tU];simp
 rw [<-tU]
 have T6:aw (fun b=>b=nb) W1 W6:=T5.trans (aw.of jY aI)
 refine hK _ _ (iL.out _ T6) ?_
 clear hK K tU
 have z2:W1.heap.size<=w2.heap.size:=T2.size
 have z3:w2.heap.size<=w3.heap.size:=hb3.size
 have z4:w3.heap.size<=w4.heap.size:=hb4.size
 have z5:w4.heap.size<=w5.heap.size:=cx.size
 have B3:ah w2 w3:=⟨hb3.os,hb3.tape,hb3.output,hb3.size,hb3.block⟩
 have B6:ah W1 W6:=Below.trans' (Below.trans' (Below.trans' (Below.trans' hb2 B3 z2) hb4 af) cx af) jY af
 have xm:=(fe.out.1.below B6 aI).row
 refine aS rfl (fun K hK=>?_)
 refine wp_append_lies _ (.tmp 108) (.tmp 125) 30 rfl M 119 i0 z0 5 104 Tryd.underlying30 hi0 hz0 DX DW DV aW _ rs.length _ rfl xm ⟨w5.heap.size,0,none⟩ 1 1 (cL ⟨false, .slice none 0 0, .slice s3 KD.length c3, .slice s4 DD.length c4, .slice s5 BD.length c5⟩) rfl rfl (World.news_of_block k6) ?hone aW (by unfold maxLen;omega) af af W6.heap.size rfl ?_
 case hone=>
  intro u hu
  simp [cL]at hu
  rcases hu with rfl|rfl|rfl|rfl|rfl <;> rfl
 intro g cap' w7 xj uG Q7 ME
 have T7:aw (fun b=>b=nb) W1 w7:=aw.grown T6 uG (fun k hk=> .inl (by injection hk with hk;exact hk.symm))
 refine hK _ _ (iL.out _ T7) ?_
 clear hK K
 have vV:g=nb\/g=W6.heap.size:=Q7.imp (fun h=>(dw h).symm) id
 have DU:=uG.size
 have uA:∀b,W1.heap.size<=b->b<w5.heap.size->w7.heap[b]?=w5.heap[b]?:=fun b h1 h2=>(uG.block b af (fun e=>by have e:b=nb:=dw e;omega)).trans (jY.block b h2)
 have p3:∀g,(Value.slice s3 KD.length c3).ownBlock=some g->w2.heap.size<=g/\g<w3.heap.size:=fun g hg=>(kY.lt g hg)
 have p4:∀g,(Value.slice s4 DD.length c4).ownBlock=some g->w3.heap.size<=g/\g<w4.heap.size:=fun g hg=>xX.lt g hg
 have p5:∀g,(Value.slice s5 BD.length c5).ownBlock=some g->w4.heap.size<=g/\g<w5.heap.size:=fun g hg=>iD.lt g hg
 have o3:w7.ownsRow M 3 1 (.slice s3 KD.length c3) KD.length (KD.flatMap bV):=bX (cP kY (by show M<=w2.heap.size;omega)) fun b hb=>by
  have:=p3 b hb
  exact(uA b af af).trans ((cx.block b af).trans (hb4.block b af))
 have o4:w7.ownsRow M 3 1 (.slice s4 DD.length c4) DD.length (DD.flatMap bV):=bX (cP xX af) fun b hb=>by
  have:=p4 b hb
  exact(uA b af af).trans (cx.block b af)
 have o5:w7.ownsRow M 96 7 (.slice s5 BD.length c5) BD.length (BD.flatMap bj):=bX (cP iD af) fun b hb=>by
  have:=p5 b hb
  exact uA b af af
 obtain⟨ye,WQ⟩:=Ck (M:=M) (H:=W1.heap.size) (w:=w7) (lf:=false) (x:=⟨false,[],KD,DD,BD⟩) (v1:= .slice s3 KD.length c3) (v2:= .slice s4 DD.length c4) (v3:= .slice s5 BD.length c5) (a:=w3.heap.size) (b:=w4.heap.size) (c:=w5.heap.size) rfl rfl o3 o4 o5 (fun g hg=>by have:=p3 g hg;omega) p4 p5 af z4 z5 af
 have iY:=hdd (fe.out.1.push (w1:=w7) (kX:= .slice (some ⟨g,0,none⟩) (rs.length+1) cap') (T7.mono fun b _ h=>by rw [h];rfl) xj (fun b hb=>by
   have hb:g=b:=dw hb
   subst hb
   rcases vV with e|e
   ·left;rw [e];rfl
   ·right;rw [e];omega) ye (fun f b hb e=>by
   have e:g=b:=dw e
   have:=WQ f b hb
   rcases vV with e'|e' <;> omega))
 obtain⟨d0,-⟩:=iL.out _ T7
 have d1:w7.frozen? ⟨bb,0,none⟩=false:=(T7.frozen Ea vz 0).trans ((hb1.frozen (p:=⟨bb,0,none⟩) hbl).trans (Fa 0))
 (repeat first|refine bg ?_|refine aZ ?_)
 refine bp rfl (fun K hK=>?_)
 go_simp
 refine hK _ _ ?_
 clear hK K
 refine cv ?_
 have T8:aw (fun b=>b=bb\/b=nb) W1 (w7.setCell ⟨bb,0,none⟩ (.slice (some ⟨g,0,none⟩) (rs.length+1) cap')):=(T7.mono fun _ _ h=> .inr h).setCell (.inl (.inl rfl)) _
 generalize w7.setCell ⟨bb,0,none⟩ (.slice (some ⟨g,0,none⟩) (rs.length+1) cap')=W8 at iY T8 ⊢
 have hgX:w.heap.size≠g:=by
  rcases vV with e|e
  ·rw [e];omega
  ·omega
 have Ox:∃rn:Raw,(⟨false, .slice none 0 0, .slice s3 KD.length c3, .slice s4 DD.length c4, .slice s5 BD.length c5⟩:Raw)=rn:=⟨_,rfl⟩
 obtain⟨rn,Ox⟩:=Ox
 rw [Ox]at iY
 clear iL T0 T2 T3 T4 T5 T6 T7 hb2 hb3 hb4 cx kY xX iD jY B3 B6 xm k6 xj uG Q7 ME d0 d1 uA p3 p4 p5 o3 o4 o5 ye WQ Ox z2 z3 z4 z5 uC DU vV
 have D5:(rs++[rn])[j]?=some r:=by rw [zP hjl];exact fe.out.2.2.1
 have OA:(rs++[rn]).length=rs.length+1:=bq
 have hcells:=iY.out.1
 rw [<-OA]at hcells
 obtain⟨e0,-,-,-,-,-,Rm,-,e2,e3,e4⟩:=hcells.cells D5
 obtain⟨f0,f1,f2,f3,f4,-⟩:=hcells.cells D5 |>.2
 rw [OA]at e0
 have MJ:=fun w'=>dS (ab:=g) (aY:=0) (n:=rs.length+1) (cap:=cap') (show (j:Int)=((j:Nat):Int) by rfl) af w'
 simp only [iM]at MJ
 have iL:=hdd fun(W:World) (hT:ah W8 W)=>(by
  obtain⟨-,g2,g3,g4,-⟩:=HX.out W (T8.trans (aw.of hT aI))
  exact⟨(hT.cell (p:=⟨bb,0,none⟩) e2).trans e0,g2,g3,g4⟩:W.cell? ⟨bb,0,none⟩=some (.slice (some ⟨g,0,none⟩) (rs.length+1) cap')/\W.cell? ⟨w.heap.size,2,none⟩=some (.slice (some ⟨kb,0,none⟩) 4 kc)/\W.cell? ⟨w.heap.size,3,none⟩=some (.slice (some ⟨db,0,none⟩) 5 dc)/\W.cell? ⟨w.heap.size,4,none⟩=some (.slice none 0 0))
 have T0:ah W8 W8.drew:=(aJ _ _).drew
 have UC:=hdd Rm
 have UD:=hdd (aM f0 (aM f1 (aM f2 (aM f3 f4))))
 have Yl:=hdd hcells
 have aaf:IntKind.i64.wrap (1:Int)=1:=IntWalk.i64_in _ af
 clear hcells e0 Rm im f0 f1 f2 f3 f4
 go_wp2_with fail
 refine bI [(0,1),(1,1),(2,1),(3,1),(4,0),(5,1),(6,1),(7,0),(8,1),(9,1),(10,1),(12,1),(13,0),(14,1),(15,1),(17,1),(18,0),(19,1),(20,1),(11,2),(16,2),(21,2),(22,1),(23,1),(24,3)] 24 (fun W=>W.cell? ⟨bb,0,none⟩=some (.slice (some ⟨g,0,none⟩) (rs.length+1) cap')/\W.cell? ⟨w.heap.size,2,none⟩=some (.slice (some ⟨kb,0,none⟩) 4 kc)/\W.cell? ⟨w.heap.size,3,none⟩=some (.slice (some ⟨db,0,none⟩) 5 dc)/\W.cell? ⟨w.heap.size,4,none⟩=some (.slice none 0 0)) cy cy (iL.out _ T0) ?_
 (simp only [bF,List.filterMap_cons,List.filterMap_nil,List.getElem?_cons_zero,List.getElem?_cons_succ,Option.map_some])
 (repeat first|refine bg ?_|refine aZ ?_)
 refine aS rfl (fun K hK=>?_)
 go_simp
 (with_reducible refine(HC.out _ (T8.trans (aw.of T0 aI))).2.2.2.1.mono ?_);rintro e w3 ⟨v3,rfl,kY,hb3⟩
 obtain⟨s3,c3,rfl⟩:=(bt.mk kY).isSlice
 have B3:ah W8 w3:=Below.trans' T0 hb3 aI
 go_simp
 refine hK _ _ (iL.out _ B3) ?_
 clear hK K
 (repeat first|refine bg ?_|refine aZ ?_)
 refine aS rfl (fun K hK=>?_)
 go_simp
 (with_reducible refine(HC.out _ (T8.trans (aw.of B3 aI))).2.2.2.2.1.mono ?_);rintro e w4 ⟨v4,rfl,xX,hb4⟩
 obtain⟨s4,c4,rfl⟩:=(bt.mk xX).isSlice
 have B4:ah W8 w4:=Below.trans' B3 hb4 B3.size
 go_simp
 refine hK _ _ (iL.out _ B4) ?_
 clear hK K
 (repeat first|refine bg ?_|refine aZ ?_)
 refine aS rfl (fun K hK=>?_)
 go_simp
 (with_reducible refine(HC.out _ (T8.trans (aw.of B4 aI))).2.2.2.2.2.mono ?_);rintro e w5 ⟨v5,rfl,iD,cx⟩
 obtain⟨s5,c5,rfl⟩:=(av.mk iD).isSlice
 have B5:ah W8 w5:=Below.trans' B4 cx B4.size
 go_simp
 refine hK _ _ (iL.out _ B5) ?_
 clear hK K
 have DN:=T8.size
 have z3:W8.heap.size<=w3.heap.size:=hb3.size
 have z4:w3.heap.size<=w4.heap.size:=hb4.size
 have z5:w4.heap.size<=w5.heap.size:=cx.size
 have p3:∀g,(Value.slice s3 KT.length c3).ownBlock=some g->W8.heap.size<=g/\g<w3.heap.size:=fun g hg=>(kY.lt g hg)
 have p4:∀g,(Value.slice s4 DT.length c4).ownBlock=some g->w3.heap.size<=g/\g<w4.heap.size:=fun g hg=>xX.lt g hg
 have p5:∀g,(Value.slice s5 BT.length c5).ownBlock=some g->w4.heap.size<=g/\g<w5.heap.size:=fun g hg=>iD.lt g hg
 have o3:w5.ownsRow M 3 1 (.slice s3 KT.length c3) KT.length (KT.flatMap bV):=bX (cP kY (by show M<=W8.heap.size;omega)) fun b hb=>by
  have:=p3 b hb
  exact(cx.block b af).trans (hb4.block b af)
 have o4:w5.ownsRow M 3 1 (.slice s4 DT.length c4) DT.length (DT.flatMap bV):=bX (cP xX af) fun b hb=>by
  have:=p4 b hb
  exact cx.block b af
 have o5:w5.ownsRow M 96 7 (.slice s5 BT.length c5) BT.length (BT.flatMap bj):=cP iD af
 obtain⟨ye,-⟩:=Ck (M:=M) (H:=W8.heap.size) (w:=w5) (lf:=false) (x:=⟨false,[],KT,DT,BT⟩) (v1:= .slice s3 KT.length c3) (v2:= .slice s4 DT.length c4) (v3:= .slice s5 BT.length c5) (a:=w3.heap.size) (b:=w4.heap.size) (c:=w5.heap.size) rfl rfl o3 o4 o5 p3 p4 p5 z3 z4 z5 aI
 have Uf:=hdd (Yl.out.whole (n:=j) rfl (by rw [OA];omega) B5 ye)
 obtain⟨m0,m1,m2,m3,m4⟩:=UD.out
 have d0:=(B5.cell (p:=⟨g,_,none⟩) e3).trans m0
 have d1:=(B5.cell (p:=⟨g,_,none⟩) e3).trans m1
 have d2:=(B5.cell (p:=⟨g,_,none⟩) e3).trans m2
 have d3:=(B5.cell (p:=⟨g,_,none⟩) e3).trans m3
 have d4:=(B5.cell (p:=⟨g,_,none⟩) e3).trans m4
 have df:∀o,w5.frozen? ⟨g,o,none⟩=false:=fun o=>(B5.frozen (p:=⟨g,_,none⟩) e3).trans (UC.out _)
 have c9:=(iL.out _ B5).1
 clear m0 m1 m2 m3 m4 iL kY xX iD hb3 hb4 cx B3 B4 B5 p3 p4 p5 o3 o4 o5 ye T0 T8 HC HX H8
 (repeat first|refine bg ?_|refine aZ ?_)
 refine bp rfl (fun K hK=>?_)
 go_simp
 refine hK _ _ ?_
 clear hK K
 refine cv ?_
 have f0:(((((w5.setCell ⟨g,j*5,none⟩ (.bool false)).setCell ⟨g,j*5+1,none⟩ (.slice none 0 0)).setCell ⟨g,j*5+2,none⟩ (.slice s3 KT.length c3)).setCell ⟨g,j*5+3,none⟩ (.slice s4 DT.length c4)).setCell ⟨g,j*5+4,none⟩ (.slice s5 BT.length c5)).cell? ⟨bb,0,none⟩=some (.slice (some ⟨g,0,none⟩) (rs.length+1) cap'):=by
  rw [World.cell?_of_block (a:=⟨bb,0,none⟩) (lF e4)];exact c9
 generalize ((((w5.setCell ⟨g,j*5,none⟩ (.bool false)).setCell ⟨g,j*5+1,none⟩ (.slice none 0 0)).setCell ⟨g,j*5+2,none⟩ (.slice s3 KT.length c3)).setCell ⟨g,j*5+3,none⟩ (.slice s4 DT.length c4)).setCell ⟨g,j*5+4,none⟩ (.slice s5 BT.length c5)=WA at Uf f0 ⊢
 clear d0 d1 d2 d3 d4 df c9
 have hw0:IntKind.i64.wrap ((rs.length:Int)+1-1)=(rs.length:Int)+1-1:=IntWalk.i64_in _ af
 have hw1:IntKind.i64.wrap ((rs.length:Int)+1-1)=(rs.length:Int):=by rw [hw0];omega
 clear hw0
 have hlen:rs.length=t.nodes.length:=fe.out.1.len
 go_wp2
 go_ret2
 exact⟨rfl,_,_,Uf.out.1.below (show ah WA _ from ag) aI,((fe.out.2.1.trans iY.out.2).trans Uf.out.2).trans (nI.of (show ah WA _ from ag) aI)⟩
end
theorem vH {M:Nat} {w:World} {bb:Nat} {nv:Value} {rs:List Raw} {t t':Tr} {n more key:Int} (h:Bd M w bb nv rs t) (hF:gW t n=some (t',more,key)) :
  Calls Tryd.prog 96 #[.pointer (some ⟨bb,0,none⟩), .int .i64 n] w fun e w'=>e = .returned (.tuple #[.int .i64 more, .int .i64 key])/\kO M bb (dE bb nv rs) w t' w':=by
 unfold gW at hF
 split at hF
 ·cases hF
 ·rename_i x hx
  split at hF
  ·rename_i hl
   split at hF
   ·rename_i h6
    injection hF with hF
    injection hF with h1 h2
    injection h2 with h2 h3
    subst h1 h2 h3
    exact yB h hx (.inl ⟨hl,h6⟩)
   ·split at hF
    ·rename_i hg
     injection hF with hF
     injection hF with h1 h2
     injection h2 with h2 h3
     subst h1 h2 h3
     exact Fw h hx hl hg.1 hg.2
    ·cases hF
  ·rename_i hl
   have hl:x.leaf=false:=by simpa using hl
   split at hF
   ·rename_i h4
    injection hF with hF
    injection hF with h1 h2
    injection h2 with h2 h3
    subst h1 h2 h3
    exact yB h hx (.inr ⟨hl,h4⟩)
   ·split at hF
    ·rename_i hg
     obtain⟨g1,g2,g3,g4,g5⟩:=hg
     injection hF with hF
     injection hF with h1 h2
     injection h2 with h2 h3
     subst h1 h2 h3
     obtain⟨j,nb,cap,r,rfl,rfl,kR,si,hjl,hown⟩:=h.place hx
     obtain⟨-,⟨rX,hb0⟩|⟨gb,bc,cur,rX,-⟩⟩:=hown.buf.row
     ·exact xH h kR si hjl hown rX hl g1 g2 g3 g4 g5 (xN hb0)
     ·by_cases hc:bc=ic x.buf (x.keys.getD 1 0)
      ·exact qm (o:=0) h kR si hjl hown rX hl g1 g2 g3 g4 g5 rfl (by rw [ar hc])
      ·exact qm h kR si hjl hown rX hl g1 g2 g3 g4 g5 rfl (by rw [ai hc])
    ·cases hF
end Go.Proofs.YtmljjfhgciaceaaDoor
