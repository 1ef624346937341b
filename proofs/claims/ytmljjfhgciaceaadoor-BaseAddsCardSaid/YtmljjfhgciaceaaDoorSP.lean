/- Texts of mine that come as one: Rest SplitA SplitB SplitC SplitD Split. -/
import Derived.Test.YtmljjfhgciaceaaDoorHd
import Derived.Test.YtmljjfhgciaceaaDoorDG
import Derived.Test.YtmljjfhgciaceaaDoorIG
import Derived.Test.YtmljjfhgciaceaaDoorSO
import Derived.Test.YtmljjfhgciaceaaDoorAW
namespace Go.Proofs.YtmljjfhgciaceaaDoor
open Go.RowKit
section
set_option maxRecDepth 100000
set_option maxHeartbeats 4000000
variable {n:Int} {t t':Tr} {w:World}
theorem Ga {e:aC} (h:oU n t e=some t'):∃x b,t.dh n=some x/\vk x.buf/\jZ e/\jI x.buf e=some b/\t'=cG t n { x with buf:=b }:=by
 unfold oU at h
 split at h
 ·cases h
 ·rename_i x hx
  obtain⟨b,hb,rfl⟩:=Option.map_eq_some_iff.1 h
  unfold ye at hb
  split at hb
  ·rename_i hg
   exact⟨x,b,hx,hg.1,hg.2,hb,rfl⟩
  ·cases hb
theorem Dx {B:Nat} {F F':Nat->Prop} {w':World} {v:Value} {es:List aC} (h:au B w v es) (hs:nG F F' w w') (hF:∀b,v.ownBlock=some b->¬F b):au B w' v es/\∀b,v.ownBlock=some b->¬F' b:=
 ⟨h.block fun g hg=>(hs.stay (h.lt g hg).2 (hF g hg)).1,fun b hb=>(hs.stay (h.lt b hb).2 (hF b hb)).2⟩
def kO (M:Nat) (bb:Nat) (F:Nat->Prop) (w:World) (t':Tr) (w':World):Prop:=∃kY fO,Bd M w' bb kY fO t'/\nG F (dA bb kY fO) w w'
theorem LM {M:Nat} {bb:Nat} {nv:Value} {rs:List Raw} {key:Int} {dv:Value} {all:List aC} (h:Bd M w bb nv rs t) (hd:au M w dv all) (hdF:∀b,dv.ownBlock=some b->¬dA bb nv rs b) (hl:all.length<=20)
  (hF:(all.filter fun d=>decide (key<d.key)).foldlM (oU n) t=some t') :
  Calls Tryd.prog 119 #[.pointer (some ⟨bb,0,none⟩), .int .i64 n,dv, .int .i64 key] w fun e w'=>e = .returned (.tuple #[])/\kO M bb (dA bb nv rs) w t' w':=by
 obtain⟨ds,dc,rfl⟩:=hd.isSlice
 have HST:=hdd (aL h (aL hd (aL hdF hF)))
 clear h hd hdF hF
 go_enter Tryd.func119,Tryd.ntmps119
 go_wp2_with fail
 go_loopg [12] all.length (fun g i wr=>∃k:Nat,k<=all.length/\g=all.length-k/\i = .int .i64 k/\Hid (∃kY fO tk,Bd M wr bb kY fO tk/\nG (dA bb nv rs) (dA bb kY fO) w wr/\au M wr (.slice ds all.length dc) all/\(∀b,(Value.slice ds all.length dc).ownBlock=some b->¬dA bb kY fO b)/\((all.drop k).filter fun d=>decide (key<d.key)).foldlM (oU n) tk=some t'))
 case atStart=>exact⟨0,jd _,rfl,rfl,hdd ⟨nv,rs,t,HST.out.1,nG.refl _ _,HST.out.2.1,HST.out.2.2.1,HST.out.2.2.2⟩⟩
 case round=>
  clear HST
  obtain⟨k,hk,rfl,rfl,HR⟩:=hrel
  obtain⟨kY,fO,tk,hB,hS,ho,U3,hf⟩:=HR.out
  by_cases jJ:k<all.length
  ·obtain⟨_,_,hv,-,-,-,-,h5⟩:=ho.at af
   injection hv with hv1 _ hv3
   subst hv3
   obtain⟨eb,eB,lA,si,nE⟩:=h5 af
   subst lA
   subst hv1
   obtain⟨y0,y1,y2,y3,y4,y5,y6⟩:=bU (aI _ _) si nE jJ
   obtain⟨y,hy⟩:=bt (all[k])
   rw [hy]at y0 y1 y2 y3 y4 y5 y6
   rw [vd jJ,hy]at hf
   obtain⟨W8,mM⟩:=bP (wr.alloc (.cells #[.int .i64 y.key, .int .i64 y.is.c, .int .i64 y.is.s, .int .i64 y.is.mi, .int .i64 y.is.ma, .int .i64 y.is.t, .int .i64 y.is.l] 96))
   have kS:ah wr W8:=by rw [mM];exact ag
   have Ee:W8.heap.size=wr.heap.size+1:=by rw [mM];simp
   have k8:W8.heap[wr.heap.size]?=some (.cells #[.int .i64 y.key, .int .i64 y.is.c, .int .i64 y.is.s, .int .i64 y.is.mi, .int .i64 y.is.ma, .int .i64 y.is.t, .int .i64 y.is.l] 96):=by rw [mM];exact aj _ _ rfl
   have I3:=hB.below kS aH
   have Xe:=hS.trans (nG.of (F:=dA bb kY fO) kS aH)
   have Q0:=ho.below kS aH
   have hF8:¬dA bb kY fO wr.heap.size:=fun hf=>by have:=(hB.lt _ hf).2;omega
   have jS:=fun w'=>dw (ab:=eb) (aV:=eB) (n:=all.length) (cap:=dc) (show (k:Int)=((k:Nat):Int) by rfl) jJ w'
   have s0:W8.cell? ⟨wr.heap.size,0,none⟩=some (.int .i64 y.key):=by simp [World.cell?,k8]
   have HK8:=hdd k8
   have eU:=hdd (aL I3 (aL Xe (aL Q0 U3)))
   have HF8:=hdd hF8
   go_upto_region 3 with (fail)
   rw [<-mM]
   clear hB hS ho U3 mM I3 Xe Q0 nE h5 hy y0 y1 y2 y3 y4 y5 y6 k8 jS HR hF8
   by_cases i1:key<y.key
   ·rw [rG (by simpa using i1),List.foldlM_cons]at hf
    cases hr:oU n tk y with
    |none=>rw [hr]at hf;cases hf
    |some t1=>
     rw [hr]at hf
     have XO:=hdd (show ((all.drop (k+1)).filter fun d=>decide (key<d.key)).foldlM (oU n) t1=some t' from hf)
     obtain⟨x,b,hx,hrow,hent,hins,ht1⟩:=Ga hr
     obtain⟨I3,Xe,Q0,U3⟩:=eU.out
     obtain⟨j,nb,cap,r,rfl,rfl,kR,sF,hjl,hown⟩:=I3.place hx
     obtain⟨c0,-,-,-,-,c4,wG,FA,hbl,hnl,vC⟩:=I3.cells kR
     obtain⟨bs,bc,sj⟩:=hown.buf.isSlice
     rw [sj]at c4
     have hm:=tF (w:=W8.drew) (x:=y) (au.drew (sj▸hown.buf)) (by have:=I3.low;show M<=W8.heap.size;omega) (by have:=hrow.2.2.2;omega) hrow.1 (fun e he=>(hrow.2.1 e he).2) hent.2.1 hrow.2.2.1 hent.2.2
     rw [hins]at hm
     have HM:=hdd hm
     have iu:=fun w'=>dR (ab:=nb) (aV:=0) (n:=fO.length) (cap:=cap) (show (j:Int)=((j:Nat):Int) by rfl) hjl w'
     simp only [iW]at iu
     have iI:=hdd fun(W:World) (hT:aa0 (fun b=>(Value.slice bs x.buf.length bc).ownBlock=some b) W8 W)=>(by
      have g1:∀b,b<W8.heap.size->(Value.slice bs x.buf.length bc).ownBlock≠some b->∀o,W.cell? ⟨b,o,none⟩=W8.cell? ⟨b,o,none⟩:=fun b hb hne o=>hT.cell hb hne o
      have hsl:∀b,(Value.slice bs x.buf.length bc).ownBlock=some b->b≠bb/\b≠nb/\b≠wr.heap.size:=fun b hb=>by
       rw [<-sj]at hb
       have:=I3.off j r 3 b kR hb
       exact⟨this.1,fun e=>this.2 (by rw [e];rfl),fun e=>HF8.out (by rw [<-e];exact .inr (.inr ⟨j,r,3,kR,hb⟩))⟩
      have e1:=g1 bb hbl (fun h=>(hsl bb h).1 rfl)
      have e2:=g1 nb hnl (fun h=>(hsl nb h).2.1 rfl)
      have e3:=g1 wr.heap.size af (fun h=>(hsl _ h).2.2 rfl)
      refine⟨(e1 0).trans c0,(e2 _).trans c4,?_⟩
      rw [e3,e3,e3,e3,e3,e3,e3]
      simp [World.cell?,HK8.out]:W.cell? ⟨bb,0,none⟩=some (.slice (some ⟨nb,0,none⟩) fO.length cap)/\W.cell? ⟨nb,j*5+4,none⟩=some (.slice bs x.buf.length bc)/\W.cell? ⟨wr.heap.size,0,none⟩=some (.int .i64 y.key)/\W.cell? ⟨wr.heap.size,1,none⟩=some (.int .i64 y.is.c)/\W.cell? ⟨wr.heap.size,2,none⟩=some (.int .i64 y.is.s)/\W.cell? ⟨wr.heap.size,3,none⟩=some (.int .i64 y.is.mi)/\W.cell? ⟨wr.heap.size,4,none⟩=some (.int .i64 y.is.ma)/\W.cell? ⟨wr.heap.size,5,none⟩=some (.int .i64 y.is.t)/\W.cell? ⟨wr.heap.size,6,none⟩=some (.int .i64 y.is.l))
     have Ik:=hdd fun(W:World) (hT:aa0 (fun b=>(Value.slice bs x.buf.length bc).ownBlock=some b) W8 W)=>(by
      have hne:(Value.slice bs x.buf.length bc).ownBlock≠some nb:=fun h=>by rw [<-sj]at h;exact(I3.off j r 3 nb kR h).2 rfl
      exact fun o=>(hT.frozen hnl hne o).trans (wG o):∀o,W.frozen? ⟨nb,o,none⟩=false)
     have AE:=hdd fun(W:World) (v':Value) (hT:aa0 (fun b=>(Value.slice bs x.buf.length bc).ownBlock=some b) W8 W) (hv:au M W v' b) (hv':∀b,v'.ownBlock=some b->(Value.slice bs x.buf.length bc).ownBlock=some b\/W8.heap.size<=b)=>(by
      obtain⟨q1,q2⟩:=I3.field (f:=3) rfl kR sF af (w1:=W) (v':=v') (x':={ x with buf:=b }) (by show aa0 (fun b=>r.bv.ownBlock=some b) W8 W;rw [sj];exact hT) hv.row (by show ∀b,v'.ownBlock=some b->r.bv.ownBlock=some b\/_;rw [sj];exact hv') rfl (fun g hg=>by
       rcases lH g 4 with h4|h4
       ·rcases vA h4 with rfl|rfl|rfl|rfl <;> first|exact⟨rfl,rfl⟩|exact absurd rfl hg
       ·obtain⟨k,rfl⟩:∃k,g=k+4:=⟨g-4,af⟩;exact⟨rfl,rfl⟩) rfl
      obtain⟨q3,q4⟩:=Dx Q0 q2 U3
      exact⟨_,_,t1,ht1▸q1,Xe.trans q2,q3,q4,XO.out⟩:∃kY fO tk,Bd M (W.setCell ⟨nb,j*5+4,none⟩ v') bb kY fO tk/\nG (dA bb nv rs) (dA bb kY fO) w (W.setCell ⟨nb,j*5+4,none⟩ v')/\au M (W.setCell ⟨nb,j*5+4,none⟩ v') (.slice (some ⟨eb,eB,none⟩) all.length dc) all/\(∀b,(Value.slice (some ⟨eb,eB,none⟩) all.length dc).ownBlock=some b->¬dA bb kY fO b)/\((all.drop (k+1)).filter fun d=>decide (key<d.key)).foldlM (oU (j:Int)) tk=some t')
     clear I3 Xe Q0 U3 hx hrow hent hins ht1 kR sF hown sj c0 c4 wG FA hm hr hf
     go_wp2_with fail
     refine bJ [(0,1),(1,1),(2,1),(3,1),(4,0),(5,1),(6,1),(7,1),(8,1),(9,1),(10,0),(11,1),(12,1),(13,1),(14,0),(15,0),(16,2),(17,1),(18,1),(19,1),(20,1),(21,1),(22,3)] 22
      (fun W=>W.cell? ⟨bb,0,none⟩=some (.slice (some ⟨nb,0,none⟩) fO.length cap)/\W.cell? ⟨nb,j*5+4,none⟩=some (.slice bs x.buf.length bc)/\W.cell? ⟨wr.heap.size,0,none⟩=some (.int .i64 y.key)/\W.cell? ⟨wr.heap.size,1,none⟩=some (.int .i64 y.is.c)/\W.cell? ⟨wr.heap.size,2,none⟩=some (.int .i64 y.is.s)/\W.cell? ⟨wr.heap.size,3,none⟩=some (.int .i64 y.is.mi)/\W.cell? ⟨wr.heap.size,4,none⟩=some (.int .i64 y.is.ma)/\W.cell? ⟨wr.heap.size,5,none⟩=some (.int .i64 y.is.t)/\W.cell? ⟨wr.heap.size,6,none⟩=some (.int .i64 y.is.l)) bT bT (iI.out _ (aa0.drew (aa0.refl _ _))) ?_
     (simp only [bG,List.filterMap_cons,List.filterMap_nil,List.getElem?_cons_zero,List.getElem?_cons_succ,Option.map_some])
     (repeat first|refine aY ?_|refine aX ?_)
     refine aP rfl (fun K hK=>?_)
     go_simp
     (with_reducible refine HM.out.mono ?_);rintro e w5 ⟨qq,v5,rfl,iD,UY⟩
     have PM:aa0 (fun b=>(Value.slice bs x.buf.length bc).ownBlock=some b) W8 w5:=(aa0.drew (aa0.refl _ _)).trans qq
     go_simp
     refine hK _ _ (iI.out _ PM) ?_
     clear hK K
     have HV:=hdd (AE.out w5 v5 PM iD UY)
     have hfz:=Ik.out _ PM (j*5+4)
     obtain⟨-,YT,-⟩:=iI.out _ PM
     obtain⟨s5,c5,rfl⟩:=iD.isSlice
     clear qq iD UY
     (repeat first|refine aY ?_|refine aX ?_)
     refine bn rfl (fun K hK=>?_)
     go_simp
     refine hK _ _ ?_
     clear hK K
     refine cy ?_
     go_wp2
     go_roundg (all.length-(k+1))
     case measure=>omega
     case rel=>exact⟨k+1,af,rfl,by go_num,HV⟩
   ·rw [qB (by simpa using i1)]at hf
    have HV:=hdd (by exact⟨_,_,tk,eU.out.1,eU.out.2.1,eU.out.2.2.1,eU.out.2.2.2,hf⟩:∃kY fO tk,Bd M W8 bb kY fO tk/\nG (dA bb nv rs) (dA bb kY fO) w W8/\au M W8 (.slice (some ⟨eb,eB,none⟩) all.length dc) all/\(∀b,(Value.slice (some ⟨eb,eB,none⟩) all.length dc).ownBlock=some b->¬dA bb kY fO b)/\((all.drop (k+1)).filter fun d=>decide (key<d.key)).foldlM (oU n) tk=some t')
    have i1':y.key<=key:=af
    clear hf i1
    go_wp2
    go_roundg (all.length-(k+1))
    case measure=>omega
    case rel=>exact⟨k+1,af,rfl,by go_num,HV⟩
  ·rw [Be af]at hf
   obtain rfl:=cY hf
   have HV:=hdd (show kO M bb (dA bb nv rs) w tk wr from ⟨_,_,hB,hS⟩)
   clear hB hS ho U3 HR hf
   go_wp2
   go_end0
   exact⟨rfl,HV.out⟩
end
section
set_option maxRecDepth 100000
set_option maxHeartbeats 4000000
variable {es:List aC} {M g c i:Nat} {x:Nd} {r:Raw} {w:World}
theorem Dy (h:au M w (.slice (some ⟨g,0,none⟩) es.length c) es) (hl:es.length<=1000) (hi:i<=es.length) (o:Nat) (ho:i<es.length->o=i*7) :
  fu w (.slice (some ⟨g,o,none⟩) (es.length-i) (c-i)) (es.drop i):=by
 obtain⟨ao,cap,hv,h1,h2,h3,h4,h5⟩:=h.at af
 injection hv with hv1 _ hv3
 subst hv3
 refine⟨_,_,by rw [oI],by rw [oI];omega,af,by rw [oI];omega,bj,fun h0=>?_⟩
 rw [oI]at h0
 obtain rfl:=ho af
 obtain⟨b,off,hb,hlt,hc⟩:=h5 af
 rw [<-hv1]at hb
 injection hb with hb;injection hb with e1 e2
 subst e1 e2
 refine⟨g,i*7,rfl,hlt,fun k x hk j u hu=>?_⟩
 rw [List.getElem?_drop]at hk
 have:=hc (i+k) x hk j u hu
 rw [<-this];congr 2;omega
theorem Dw (h:au M w (.slice (some ⟨g,0,none⟩) es.length c) es) (hl:es.length<=1000) (hi:i<=es.length) :
  fu w (.slice (some ⟨g,0,none⟩) i c) (es.take i):=by
 obtain⟨ao,cap,hv,h1,h2,h3,h4,h5⟩:=h.at af
 injection hv with hv1 _ hv3
 subst hv3
 refine⟨_,_,by rw [eP,Nat.min_eq_left hi],by rw [eP,Nat.min_eq_left hi];omega,af,by rw [eP,Nat.min_eq_left hi];omega,bj,fun h0=>?_⟩
 rw [eP,Nat.min_eq_left hi]at h0
 obtain⟨b,off,hb,hlt,hc⟩:=h5 af
 rw [<-hv1]at hb
 injection hb with hb;injection hb with e1 e2
 subst e1 e2
 refine⟨g,0,rfl,hlt,fun k x hk j u hu=>hc k x ?_ j u hu⟩
 rw [qg]at hk
 split at hk
 ·exact hk
 ·cases hk
theorem rX {es:List Int} (h:bw M w (.slice (some ⟨g,0,none⟩) es.length c) es) (hl:es.length<=1000) (hi:i<=es.length) (o:Nat) (ho:i<es.length->o=i) :
  gy w (.slice (some ⟨g,o,none⟩) (es.length-i) (c-i)) (es.drop i):=by
 obtain⟨ao,cap,hv,h1,h2,h3,h4,h5⟩:=h.at af
 injection hv with hv1 _ hv3
 subst hv3
 refine⟨_,_,by rw [oI],by rw [oI];omega,af,by rw [oI];omega,bj,fun h0=>?_⟩
 rw [oI]at h0
 obtain rfl:=ho af
 obtain⟨b,off,hb,hlt,hc⟩:=h5 af
 rw [<-hv1]at hb
 injection hb with hb;injection hb with e1 e2
 subst e1 e2
 refine⟨g,o,rfl,hlt,fun k x hk j u hu=>?_⟩
 rw [List.getElem?_drop]at hk
 have:=hc (o+k) x hk j u hu
 rw [<-this];congr 2;omega
theorem rW {es:List Int} (h:bw M w (.slice (some ⟨g,0,none⟩) es.length c) es) (hl:es.length<=1000) (hi:i<=es.length) :
  gy w (.slice (some ⟨g,0,none⟩) i c) (es.take i):=by
 obtain⟨ao,cap,hv,h1,h2,h3,h4,h5⟩:=h.at af
 injection hv with hv1 _ hv3
 subst hv3
 refine⟨_,_,by rw [eP,Nat.min_eq_left hi],by rw [eP,Nat.min_eq_left hi];omega,af,by rw [eP,Nat.min_eq_left hi];omega,bj,fun h0=>?_⟩
 rw [eP,Nat.min_eq_left hi]at h0
 obtain⟨b,off,hb,hlt,hc⟩:=h5 af
 rw [<-hv1]at hb
 injection hb with hb;injection hb with e1 e2
 subst e1 e2
 refine⟨g,0,rfl,hlt,fun k x hk j u hu=>hc k x ?_ j u hu⟩
 rw [qg]at hk
 split at hk
 ·exact hk
 ·cases hk
theorem gV.keys (h:gV M w r x):bw M w r.kv x.keys:=⟨h.row 1⟩
theorem gV.kids (h:gV M w r x):bw M w r.dv x.kids:=⟨h.row 2⟩
theorem yU {bb:Nat} {nv:Value} {rs:List Raw} {t:Tr} {n:Int} (h:Bd M w bb nv rs t) (hx:t.dh n=some x) (hs:(x.leaf=true/\x.aF.length<=6)\/(x.leaf=false/\x.kids.length<=4)) :
  Calls Tryd.prog 96 #[.pointer (some ⟨bb,0,none⟩), .int .i64 n] w fun e w'=>e = .returned (.tuple #[.int .i64 (-1), .int .i64 0])/\kO M bb (dA bb nv rs) w t w':=by
 obtain⟨j,nb,cap,r,rfl,rfl,kR,sF,hjl,hown⟩:=h.place hx
 obtain⟨c0,k0,k1,k2,k3,k4,wG,FA,hbl,hnl,vC⟩:=h.cells kR
 have HB:=hdd fun w' (hb:ah w w')=>(⟨_,_,h.below hb aH,nG.of hb aH⟩:kO M bb (dA bb (.slice (some ⟨nb,0,none⟩) rs.length cap) rs) w t w')
 obtain⟨es,ec,hev⟩:=hown.aF.isSlice
 obtain⟨ks,kc,yC⟩:=hown.keys.isSlice
 obtain⟨ds,dc,BJ⟩:=hown.kids.isSlice
 obtain⟨bs,bc,sj⟩:=hown.buf.isSlice
 rw [hown.leaf]at k0
 rw [hev]at k1
 rw [yC]at k2
 rw [BJ]at k3
 rw [sj]at k4
 have iu:=fun w'=>dR (ab:=nb) (aV:=0) (n:=rs.length) (cap:=cap) (show (j:Int)=((j:Nat):Int) by rfl) hjl w'
 simp only [iW]at iu
 rcases hs with ⟨hl,hs⟩|⟨hl,hs⟩
 ·rw [hl]at k0
  have hs':(x.aF.length:Int)<=6:=af
  clear h hx kR sF hown hev yC BJ sj wG FA hl hs
  go_enter Tryd.func96,Tryd.ntmps96
  go_wp2
  go_ret2
  exact⟨rfl,HB.out _ ag⟩
 ·rw [hl]at k0
  have hs':(x.kids.length:Int)<=4:=af
  clear h hx kR sF hown hev yC BJ sj wG FA hl hs
  go_enter Tryd.func96,Tryd.ntmps96
  go_wp2
  go_ret2
  exact⟨rfl,HB.out _ ag⟩
end
section
set_option maxRecDepth 100000
set_option maxHeartbeats 4000000
theorem pR:∃i0 z,Tryd.prog.info? 119=some i0/\i0.zero=some z/\i0.size=5/\i0.bytes=104/\z.cells.size=5:=by
 obtain⟨i0,z,hi,hz,hz1,hz2,hz3⟩:=cj Tryd.QR
 exact⟨i0,z,hi,hz,hz1,hz2,hz3⟩
theorem nU (M:Nat) (w:World) (e:TypeId) (k:Nat):w.ownsRow M e k (.slice none 0 0) 0 []:=World.ownsRow_nil _ _ _ _
theorem FQ {M:Nat} {w:World} {bb:Nat} {nv:Value} {rs:List Raw} {t:Tr} {n:Int} {x:Nd} (h:Bd M w bb nv rs t) (hx:t.dh n=some x) (hl:x.leaf=true) (h7:x.aF.length=7) (hm:t.nodes.length<=1000000000000) :
  Calls Tryd.prog 96 #[.pointer (some ⟨bb,0,none⟩), .int .i64 n] w fun e w'=>e = .returned (.tuple #[.int .i64 t.nodes.length, .int .i64 (x.aF.getD 3 default).key]) /\
   kO M bb (dA bb nv rs) w (cG (jq t ⟨true,x.aF.drop 3,[],[],[]⟩) n { x with aF:=x.aF.take 3 }) w':=by
 obtain⟨j,nb,cap,r,rfl,rfl,kR,sF,hjl,hown⟩:=h.place hx
 obtain⟨c0,k0,k1,k2,k3,k4,wG,FA,hbl,hnl,vC⟩:=h.cells kR
 obtain⟨es,ec,hev⟩:=hown.aF.isSlice
 obtain⟨ks,kc,yC⟩:=hown.keys.isSlice
 obtain⟨ds,dc,BJ⟩:=hown.kids.isSlice
 obtain⟨bs,bc,sj⟩:=hown.buf.isSlice
 have ho0:=hown.aF
 rw [hev]at ho0
 obtain⟨eb,Vl,hes,-,-⟩:=World.ownsRow.form ho0.row af
 injection hes with ab3 _ ab2
 subst ab3 ab2
 have nE:7<=ec:=by obtain⟨_,_,hv,h1,_⟩:=ho0.at af;injection hv with _ _ hv3;omega
 have heo:=h.off j r 0 eb kR (by show r.ev.ownBlock=_;rw [hev];rfl)
 have GQ:eb≠bb:=heo.1
 have SR:eb≠nb:=fun e=>heo.2 (by rw [e];rfl)
 have ab5:eb<w.heap.size:=(ho0.lt eb rfl).2
 have hM:M<=w.heap.size:=by have:=(h.lt bb (.inl rfl)).1;omega
 rw [hown.leaf,hl]at k0
 rw [hev,h7]at k1
 rw [yC]at k2
 rw [BJ]at k3
 rw [sj]at k4
 have iu:=fun w'=>dR (ab:=nb) (aV:=0) (n:=rs.length) (cap:=cap) (show (j:Int)=((j:Nat):Int) by rfl) hjl w'
 simp only [iW]at iu
 obtain⟨y,hy⟩:∃y,x.aF[3]?=some y:=⟨x.aF[3],by simp [h7]⟩
 have IW:(x.aF.getD 3 default)=y:=by rw [List.getD_eq_getElem?_getD,hy];rfl
 have My:w.cell? ⟨eb,21,none⟩=some (.int .i64 y.key):=by
  obtain⟨ao,c,hv,h1,h2,h3,h4,h5⟩:=ho0.at af
  injection hv with hv1 _ hv3
  obtain⟨b,off,hb,hlt,hc⟩:=h5 af
  rw [<-hv1]at hb
  injection hb with hb;injection hb with e1 e2
  subst e1 e2
  have:=hc 3 y hy 0 (.int .i64 y.key) rfl
  simpa using this
 rw [IW]
 obtain⟨W1,hW1⟩:=bP (w.alloc (.cells #[.bool true, .slice (some ⟨eb,0,none⟩) 7 ec, .slice ks x.keys.length kc, .slice ds x.kids.length dc, .slice bs x.buf.length bc] 119))
 have hb1:ah w W1:=by rw [hW1];exact ag
 have hz1:W1.heap.size=w.heap.size+1:=by rw [hW1];simp
 have kx:W1.heap[w.heap.size]?=some (.cells #[.bool true, .slice (some ⟨eb,0,none⟩) 7 ec, .slice ks x.keys.length kc, .slice ds x.kids.length dc, .slice bs x.buf.length bc] 119):=by rw [hW1];exact aj _ _ rfl
 have BN:=h.below hb1 aH
 have hS1:nG (dA bb (.slice (some ⟨nb,0,none⟩) rs.length cap) rs) (dA bb (.slice (some ⟨nb,0,none⟩) rs.length cap) rs) w W1:=nG.of hb1 aH
 have AW:=ho0.below hb1 aH
 -- what no step of this function turns
 have HX:=hdd fun(W:World) (hT:aa0 (fun b=>b=bb\/b=nb) W1 W)=>(by
  have e1:W.heap[w.heap.size]?=_:=(hT.block _ af (by rintro(e|e) <;> omega)).trans kx
  have e2:W.heap[eb]?=w.heap[eb]?:=(hT.block eb af (by rintro(e|e) <;> contradiction)).trans (hb1.block eb ab5)
  exact⟨by simp [World.cell?,e1],by simp [World.cell?,e1],by rw [World.cell?_of_block (a:=⟨eb,21,none⟩) e2];exact My,ho0.block fun g hg=>by injection hg with hg;subst hg;exact e2⟩ :
  W.cell? ⟨w.heap.size,0,none⟩=some (.bool true)/\W.cell? ⟨w.heap.size,1,none⟩=some (.slice (some ⟨eb,0,none⟩) 7 ec)/\W.cell? ⟨eb,21,none⟩=some (.int .i64 y.key)/\au M W (.slice (some ⟨eb,0,none⟩) x.aF.length ec) x.aF)
 have HC:=hdd fun(W:World) (hT:aa0 (fun b=>b=bb\/b=nb) W1 W)=>(by
  have o:=(HX.out W hT).2.2.2
  have h1:=Dy (i:=3) o af af 21 (fun _=>rfl)
  have h2:=Dw (i:=3) o af af
  rw [h7]at h1
  have c1:=acz h1
  have c2:=acz h2
  exact⟨c1,c2⟩:Calls Tryd.prog 88 #[.slice (some ⟨eb,21,none⟩) (7-3) (ec-3)] W (fun e w'=>∃v',e = .returned v'/\w'.ownsRow W.heap.size 96 7 v' (x.aF.drop 3).length ((x.aF.drop 3).flatMap aZ)/\ah W w') /\
   Calls Tryd.prog 88 #[.slice (some ⟨eb,0,none⟩) 3 ec] W (fun e w'=>∃v',e = .returned v'/\w'.ownsRow W.heap.size 96 7 v' (x.aF.take 3).length ((x.aF.take 3).flatMap aZ)/\ah W w'))
 obtain⟨DR,hDR⟩:=bt (x.aF.drop 3)
 obtain⟨TK,hTK⟩:=bt (x.aF.take 3)
 rw [hDR,hTK]at HC ⊢
 clear hDR hTK
 obtain⟨i0,z0,hi0,hz0,Ei,Eh,Eg⟩:=pR
 have hlen:rs.length=t.nodes.length:=h.len
 have hrl:rs.length<=1000000000000:=af
 have eU:=hdd (aL BN (aL hS1 (aL kR (aL sF hev))))
 have hg2:¬(ec=3):=af
 have hg3:(3:Int)<=(ec:Int):=af
 have Ev:bb<W1.heap.size:=af
 have Wm:nb<W1.heap.size:=af
 have c0':W1.cell? ⟨bb,0,none⟩=some (.slice (some ⟨nb,0,none⟩) rs.length cap):=(hb1.cell (p:=⟨bb,0,none⟩) hbl).trans c0
 obtain⟨q0,q1,-⟩:=HX.out W1 (aa0.refl _ _)
 have HYK:=hdd hy
 clear h hx hown hev yC BJ sj hl hlen ho0 AW BN hS1 heo kR sF IW hy My
 go_enter Tryd.func96,Tryd.ntmps96
 go_upto_region 3 with (fail)
 rw [<-hW1]
 clear hW1 k0 k1 k2 k3 k4 wG c0 kx
 have iI:=hdd fun(W:World) (hT:aa0 (fun b=>b=nb) W1 W)=>(⟨(hT.cell Ev vC 0).trans c0',(HX.out W (hT.mono fun _ _ h=> .inr h)).2.1⟩:W.cell? ⟨bb,0,none⟩=some (.slice (some ⟨nb,0,none⟩) rs.length cap)/\W.cell? ⟨w.heap.size,1,none⟩=some (.slice (some ⟨eb,0,none⟩) 7 ec))
 have T0:aa0 (fun b=>b=nb) W1 W1.drew:=(aa0.refl _ _).drew
 clear c0' q0 q1
 have q1:=(iI.out W1 (aa0.refl _ _)).2
 go_wp2_with fail
 clear q1
 refine bJ [(0,1),(1,1),(2,1),(3,1),(4,1),(5,0),(6,1),(7,0),(8,1),(9,1),(10,2),(11,1),(12,2),(13,2),(14,1),(15,1),(16,1),(17,3)] 17 (fun W=>W.cell? ⟨bb,0,none⟩=some (.slice (some ⟨nb,0,none⟩) rs.length cap)/\W.cell? ⟨w.heap.size,1,none⟩=some (.slice (some ⟨eb,0,none⟩) 7 ec)) bT bT (iI.out _ T0) ?_
 (simp only [bG,List.filterMap_cons,List.filterMap_nil,List.getElem?_cons_zero,List.getElem?_cons_succ,Option.map_some])
 (repeat first|refine aY ?_|refine aX ?_)
 refine aP rfl (fun K hK=>?_)
 go_simp
 (with_reducible refine(HC.out _ (T0.mono fun _ _ h=> .inr h)).1.mono ?_);rintro e w5 ⟨v5,rfl,iD,cu⟩
 obtain⟨s5,c5,rfl⟩:=(au.mk iD).isSlice
 have T5:aa0 (fun b=>b=nb) W1 w5:=T0.trans (aa0.of cu aH)
 go_simp
 refine hK _ _ (iI.out _ T5) ?_
 clear hK K
 (repeat first|refine aY ?_|refine aX ?_)
 refine aP rfl (fun K hK=>?_)
 go_simp
 obtain⟨W6,tV⟩:=bP (w5.alloc (.cells #[.bool true,(.slice s5 DR.length c5), .slice none 0 0, .slice none 0 0, .slice none 0 0] 119))
 have jf:ah w5 W6:=by rw [tV];exact ag
 have k6:W6.heap[w5.heap.size]?=some (.cells #[.bool true,(.slice s5 DR.length c5), .slice none 0 0, .slice none 0 0, .slice none 0 0] 119):=by rw [tV];exact aj _ _ rfl
 have uB:W6.heap.size=w5.heap.size+1:=by rw [tV];simp
 rw [<-tV]
 have T6:aa0 (fun b=>b=nb) W1 W6:=T5.trans (aa0.of jf aH)
 refine hK _ _ (iI.out _ T6) ?_
 clear hK K tV
 have kQ:W1.heap.size<=w5.heap.size:=T5.size
 have Vf:ah W1 W6:=Below.trans' (show ah W1 w5 from ⟨cu.os,cu.tape,cu.output,cu.size,cu.block⟩) jf kQ
 have xD:=(eU.out.1.below Vf aH).row
 refine aP rfl (fun K hK=>?_)
 refine wp_append_lies _ (.tmp 38) (.tmp 45) 30 rfl M 119 i0 z0 5 104 Tryd.underlying30 hi0 hz0 Ei Eh Eg aW _ rs.length _ rfl xD ⟨w5.heap.size,0,none⟩ 1 1 (cI ⟨true,(.slice s5 DR.length c5), .slice none 0 0, .slice none 0 0, .slice none 0 0⟩) rfl rfl (World.news_of_block k6) ?hone aW (by unfold maxLen;omega) af af W6.heap.size rfl ?_
 case hone=>
  intro u hu
  simp [cI]at hu
  rcases hu with rfl|rfl|rfl <;> rfl
 intro g cap' w7 xC uF Rc MK
 have T7:aa0 (fun b=>b=nb) W1 w7:=aa0.grown T6 uF (fun k hk=> .inl (by injection hk with hk;exact hk.symm))
 refine hK _ _ (iI.out _ T7) ?_
 clear hK K
 have vZ:g=nb\/g=W6.heap.size:=Rc.imp (fun h=>(cY h).symm) id
 have Ef:=uF.size
 have iX:=hdd (eU.out.1.push (w1:=w7) (kY:= .slice (some ⟨g,0,none⟩) (rs.length+1) cap') (r:=⟨true,(.slice s5 DR.length c5), .slice none 0 0, .slice none 0 0, .slice none 0 0⟩) (x:=⟨true,DR,[],[],[]⟩) (T7.mono fun b _ h=>by rw [h];rfl) xC (fun b hb=>by
   have hb:g=b:=cY hb
   subst hb
   rcases vZ with e|e
   ·left;rw [e];rfl
   ·right;rw [e];omega) (by
   have UY:∀b,(Value.slice s5 DR.length c5).ownBlock=some b->W1.heap.size<=b/\b<w5.heap.size:=fun b hb=>iD.lt b hb
   refine⟨gV.of rfl (bZ (cM iD (by show M<=W1.heap.size;omega)) fun b hb=>?_) (nU _ _ _ _) (nU _ _ _ _) (nU _ _ _ _),fun f b hb=>?_,fun f g b hb hb'=>?_⟩
   ·have:=UY b hb
    exact(uF.block b af (fun e=>by have e:b=nb:=cY e;omega)).trans (jf.block b af)
   ·rcases lH f 4 with h4|h4
    ·rcases vA h4 with rfl|rfl|rfl|rfl
     ·have:=UY b hb;omega
     ·cases hb
     ·cases hb
     ·cases hb
    ·rw [Raw.ig _ h4]at hb;cases hb
   ·have z:∀f b,(Raw.lR ⟨true,(.slice s5 DR.length c5), .slice none 0 0, .slice none 0 0, .slice none 0 0⟩ f).ownBlock=some b->f=0:=fun f b hb=>by
     rcases lH f 4 with h4|h4
     ·rcases vA h4 with rfl|rfl|rfl|rfl <;> first|rfl|cases hb
     ·rw [Raw.ig _ h4]at hb;cases hb
    rw [z f b hb,z g b hb']) (fun f b hb e=>by
   have e:g=b:=cY e
   rcases lH f 4 with h4|h4
   ·rcases vA h4 with rfl|rfl|rfl|rfl
    ·have:=iD.lt b hb
     have:W1.heap.size<=b:=this.1
     omega
    ·cases hb
    ·cases hb
    ·cases hb
   ·rw [Raw.ig _ h4]at hb;cases hb))
 obtain⟨d0,-⟩:=iI.out _ T7
 have d1:w7.frozen? ⟨bb,0,none⟩=false:=(T7.frozen Ev vC 0).trans ((hb1.frozen (p:=⟨bb,0,none⟩) hbl).trans (FA 0))
 (repeat first|refine aY ?_|refine aX ?_)
 refine bn rfl (fun K hK=>?_)
 go_simp
 refine hK _ _ ?_
 clear hK K
 refine cy ?_
 have T8:aa0 (fun b=>b=bb\/b=nb) W1 (w7.setCell ⟨bb,0,none⟩ (.slice (some ⟨g,0,none⟩) (rs.length+1) cap')):=(T7.mono fun _ _ h=> .inr h).setCell (.inl (.inl rfl)) _
 generalize w7.setCell ⟨bb,0,none⟩ (.slice (some ⟨g,0,none⟩) (rs.length+1) cap')=W8 at iX T8 ⊢
 clear iI T0 T5 T6 T7 cu iD jf Vf xD k6 xC uF Rc MK d0 d1
 have Em:(rs++[(⟨true,(.slice s5 DR.length c5), .slice none 0 0, .slice none 0 0, .slice none 0 0⟩:Raw)])[j]?=some r:=by rw [Ao hjl];exact eU.out.2.2.1
 have aa4:(jq t ⟨true,DR,[],[],[]⟩).nodes[j]?=some x:=by
  have:=eU.out.2.2.2.1
  exact(Ao (gJ.1 this).1).trans this
 have Oy:(rs++[(⟨true,(.slice s5 DR.length c5), .slice none 0 0, .slice none 0 0, .slice none 0 0⟩:Raw)]).length=rs.length+1:=bj
 have hcells:=iX.out.1
 rw [<-Oy]at hcells
 obtain⟨e0,-,e1,-,-,-,Rs,-,e2,e3,e4⟩:=hcells.cells Em
 rw [Oy]at e0
 have MP:=fun w'=>dR (ab:=g) (aV:=0) (n:=rs.length+1) (cap:=cap') (show (j:Int)=((j:Nat):Int) by rfl) af w'
 simp only [iW]at MP
 have iI:=hdd fun(W:World) (hT:ah W8 W)=>(⟨(hT.cell (p:=⟨bb,0,none⟩) e2).trans e0,(HX.out W (T8.trans (aa0.of hT aH))).2.1⟩:W.cell? ⟨bb,0,none⟩=some (.slice (some ⟨g,0,none⟩) (rs.length+1) cap')/\W.cell? ⟨w.heap.size,1,none⟩=some (.slice (some ⟨eb,0,none⟩) 7 ec))
 have T0:ah W8 W8.drew:=(aI _ _).drew
 have HE1:=hdd e1
 have UG:=hdd Rs
 have Yc:=hdd hcells
 clear hcells e0 e1 Rs iu
 go_wp2_with fail
 refine bJ [(0,1),(1,1),(2,1),(3,1),(4,0),(5,1),(6,1),(7,0),(8,1),(9,1),(10,2),(11,1),(12,1),(13,3)] 13 (fun W=>W.cell? ⟨bb,0,none⟩=some (.slice (some ⟨g,0,none⟩) (rs.length+1) cap')/\W.cell? ⟨w.heap.size,1,none⟩=some (.slice (some ⟨eb,0,none⟩) 7 ec)) bT bT (iI.out _ T0) ?_
 (simp only [bG,List.filterMap_cons,List.filterMap_nil,List.getElem?_cons_zero,List.getElem?_cons_succ,Option.map_some])
 (repeat first|refine aY ?_|refine aX ?_)
 refine aP rfl (fun K hK=>?_)
 go_simp
 (with_reducible refine(HC.out _ (T8.trans (aa0.of T0 aH))).2.mono ?_);rintro e w9 ⟨v9,rfl,SM,pS⟩
 obtain⟨s9,c9',rfl⟩:=(au.mk SM).isSlice
 have B9:ah W8 w9:=Below.trans' T0 pS aH
 go_simp
 refine hK _ _ (iI.out _ B9) ?_
 clear hK K
 have d3:w9.cell? ⟨g,j*5+1,none⟩=some r.ev:=(B9.cell (p:=⟨g,_,none⟩) e3).trans HE1.out
 have d4:w9.frozen? ⟨g,j*5+1,none⟩=false:=(B9.frozen (p:=⟨g,_,none⟩) e3).trans (UG.out _)
 have Ee:=T8.size
 have UD:=hdd (Yc.out.field (f:=0) (n:=j) (w1:=w9) (v':= .slice s9 TK.length c9') (x':={ x with aF:=TK }) rfl Em aa4 af (aa0.of B9 aH) (cM SM (by show M<=W8.heap.size;omega)) (fun b hb=> .inr (SM.lt b hb).1) rfl (fun g hg=>by
  rcases lH g 4 with h4|h4
  ·rcases vA h4 with rfl|rfl|rfl|rfl <;> first|exact⟨rfl,rfl⟩|exact absurd rfl hg
  ·obtain⟨k,rfl⟩:∃k,g=k+4:=⟨g-4,af⟩;exact⟨rfl,rfl⟩) (o:=j*5+1) rfl)
 (repeat first|refine aY ?_|refine aX ?_)
 refine bn rfl (fun K hK=>?_)
 go_simp
 refine hK _ _ ?_
 clear hK K
 refine cy ?_
 have hgE:eb≠g:=by
  rcases vZ with e|e
  ·rw [e];exact SR
  ·omega
 have hgX:w.heap.size≠g:=by
  rcases vZ with e|e
  ·rw [e];omega
  ·omega
 have c9:=iI.out _ B9
 have x9:=HX.out _ (T8.trans (aa0.of B9 aH))
 have f0:(w9.setCell ⟨g,j*5+1,none⟩ (.slice s9 TK.length c9')).cell? ⟨bb,0,none⟩=some (.slice (some ⟨g,0,none⟩) (rs.length+1) cap'):=by rw [World.cell?_of_block (a:=⟨bb,0,none⟩) (heap_setCell_other w9 ⟨g,_,none⟩ bb (.slice s9 TK.length c9') e4)];exact c9.1
 have f1:(w9.setCell ⟨g,j*5+1,none⟩ (.slice s9 TK.length c9')).cell? ⟨w.heap.size,1,none⟩=some (.slice (some ⟨eb,0,none⟩) 7 ec):=by rw [World.cell?_of_block (a:=⟨w.heap.size,1,none⟩) (heap_setCell_other w9 ⟨g,_,none⟩ _ (.slice s9 TK.length c9') hgX)];exact c9.2
 have f2:(w9.setCell ⟨g,j*5+1,none⟩ (.slice s9 TK.length c9')).cell? ⟨eb,21,none⟩=some (.int .i64 y.key):=by rw [World.cell?_of_block (a:=⟨eb,21,none⟩) (heap_setCell_other w9 ⟨g,_,none⟩ _ (.slice s9 TK.length c9') hgE)];exact x9.2.2.1
 generalize w9.setCell ⟨g,j*5+1,none⟩ (.slice s9 TK.length c9')=WA at UD f0 f1 f2 ⊢
 clear iI d3 d4 c9 x9 SM pS B9 T0 T8 HC HX
 have hw0:IntKind.i64.wrap ((rs.length:Int)+1-1)=(rs.length:Int)+1-1:=IntWalk.i64_in _ af
 have hw1:IntKind.i64.wrap ((rs.length:Int)+1-1)=(rs.length:Int):=by rw [hw0];omega
 clear hw0
 have hlen:rs.length=t.nodes.length:=eU.out.1.len
 go_wp2_with fail
 go_quiet (fail)
 go_wp2
 go_ret2
 have K9:ah WA WA:=aI _ _
 exact⟨rfl,_,_,UD.out.1.below (show ah WA _ from ag) aH,((eU.out.2.1.trans iX.out.2).trans UD.out.2).trans (nG.of (show ah WA _ from ag) aH)⟩
end
section
set_option maxRecDepth 100000
set_option maxHeartbeats 6000000
variable {M:Nat} {x:Nd} {w:World}
theorem CJ {H:Nat} {lf:Bool} {v1 v2 v3:Value} {a b c:Nat} (hl:x.leaf=lf) (he:x.aF=[]) (h1:w.ownsRow M 3 1 v1 x.keys.length (x.keys.flatMap bX)) (h2:w.ownsRow M 3 1 v2 x.kids.length (x.kids.flatMap bX))
  (h3:w.ownsRow M 96 7 v3 x.buf.length (x.buf.flatMap aZ)) (k1:∀g,v1.ownBlock=some g->H<=g/\g<a) (k2:∀g,v2.ownBlock=some g->a<=g/\g<b) (k3:∀g,v3.ownBlock=some g->b<=g/\g<c) (hab:H<=a) (hbc:a<=b) (hc:b<=c) (hcw:c<=w.heap.size) :
  Fu M H w ⟨lf, .slice none 0 0,v1,v2,v3⟩ x/\∀f g,(Raw.lR ⟨lf, .slice none 0 0,v1,v2,v3⟩ f).ownBlock=some g->H<=g/\g<c:=by
 have src:∀f g,(Raw.lR ⟨lf, .slice none 0 0,v1,v2,v3⟩ f).ownBlock=some g->(f=1/\H<=g/\g<a)\/(f=2/\a<=g/\g<b)\/(f=3/\b<=g/\g<c):=fun f g hg=>by
  rcases lH f 4 with h4|h4
  ·rcases vA h4 with rfl|rfl|rfl|rfl
   ·cases hg
   ·exact .inl ⟨rfl,k1 g hg⟩
   ·exact .inr (.inl ⟨rfl,k2 g hg⟩)
   ·exact .inr (.inr ⟨rfl,k3 g hg⟩)
  ·rw [Raw.ig _ h4]at hg;cases hg
 refine⟨⟨gV.of hl.symm (by rw [he];exact nU _ _ _ _) h1 h2 h3,fun f g hg=>?_,fun f f' g hg hg'=>?_⟩,fun f g hg=>?_⟩
 ·rcases src f g hg with h|h|h <;> omega
 ·rcases src f g hg with h|h|h <;> rcases src f' g hg' with h'|h'|h' <;> omega
 ·rcases src f g hg with h|h|h <;> omega
theorem aaL {bb nb cap j:Nat} {rs:List Raw} {t:Tr} {r:Raw} {gb bl bc o:Nat} (h:Bd M w bb (.slice (some ⟨nb,0,none⟩) rs.length cap) rs t) (kR:rs[j]?=some r) (sF:t.nodes[j]?=some x) (hjl:j<rs.length) (hown:gV M w r x) (sj:r.bv = .slice (some ⟨gb,0,none⟩) bl bc)
  (hl:x.leaf=false) (h5:x.kids.length=5) (h4:x.keys.length=4) (hrow:vk x.buf) (hkr:0<=x.keys.getD 1 0/\x.keys.getD 1 0<=1099511627776) (hm:t.nodes.length<=1000000000000) (AY:x.buf.length=bl) (dZ:(if bc=ia x.buf (x.keys.getD 1 0)then some (⟨gb,0,none⟩:Addr)else some ⟨gb,ia x.buf (x.keys.getD 1 0)*7,none⟩)=some ⟨gb,o,none⟩) :
  Calls Tryd.prog 96 #[.pointer (some ⟨bb,0,none⟩), .int .i64 (j:Int)] w fun e w'=>e = .returned (.tuple #[.int .i64 t.nodes.length, .int .i64 (x.keys.getD 1 0)]) /\
   kO M bb (dA bb (.slice (some ⟨nb,0,none⟩) rs.length cap) rs) w (cG (jq t ⟨false,[],x.keys.drop 2,x.kids.drop 2,x.buf.drop (ia x.buf (x.keys.getD 1 0))⟩) j ⟨false,[],x.keys.take 1,x.kids.take 2,x.buf.take (ia x.buf (x.keys.getD 1 0))⟩) w':=by
 obtain⟨c0,k0,k1,k2,k3,k4,wG,FA,hbl,hnl,vC⟩:=h.cells kR
 obtain⟨es,ec,hev⟩:=hown.aF.isSlice
 obtain⟨ks,kc,yC⟩:=hown.keys.isSlice
 obtain⟨ds,dc,BJ⟩:=hown.kids.isSlice
 have hok:=hown.keys
 have sL:=hown.kids
 have oP:=hown.buf
 rw [yC]at hok
 rw [BJ]at sL
 rw [sj]at oP
 obtain⟨kb,Si,hks,-,-⟩:=World.ownsRow.form hok.row af
 injection hks with S0 _ SY
 subst S0 SY
 obtain⟨db,OD,hds,-,-⟩:=World.ownsRow.form sL.row af
 injection hds with Ti _ Th
 subst Ti Th
 have hkc:4<=kc:=by obtain⟨_,_,hv,h1,_⟩:=hok.at af;injection hv with _ _ hv3;omega
 have hdc:5<=dc:=by obtain⟨_,_,hv,h1,_⟩:=sL.at af;injection hv with _ _ hv3;omega
 have hko:=h.off j r 1 kb kR (by show r.kv.ownBlock=_;rw [yC];rfl)
 have Tj:=h.off j r 2 db kR (by show r.dv.ownBlock=_;rw [BJ];rfl)
 have Fy:∀g,(Value.slice (some ⟨gb,0,none⟩) bl bc).ownBlock=some g->g≠bb/\g≠nb:=fun g hg=>by
  have:=h.off j r 3 g kR (by show r.bv.ownBlock=_;rw [sj];exact hg)
  exact⟨this.1,fun e=>this.2 (by rw [e];rfl)⟩
 have hk2:kb≠nb:=fun e=>hko.2 (by rw [e];rfl)
 have hd2:db≠nb:=fun e=>Tj.2 (by rw [e];rfl)
 have hkl:kb<w.heap.size:=(hok.lt kb rfl).2
 have zO:db<w.heap.size:=(sL.lt db rfl).2
 have hM:M<=w.heap.size:=by have:=(h.lt bb (.inl rfl)).1;omega
 rw [hown.leaf,hl]at k0
 rw [hev]at k1
 rw [yC,h4]at k2
 rw [BJ,h5]at k3
 rw [sj]at k4
 have iu:=fun w'=>dR (ab:=nb) (aV:=0) (n:=rs.length) (cap:=cap) (show (j:Int)=((j:Nat):Int) by rfl) hjl w'
 simp only [iW]at iu
 obtain⟨key,hy⟩:∃y,x.keys[1]?=some y:=⟨x.keys[1],by simp [h4]⟩
 have IW:x.keys.getD 1 0=key:=by rw [List.getD_eq_getElem?_getD,hy];rfl
 obtain⟨_,_,_,Fx,-,Sl⟩:=gy.get (hok.at af) hy
 injection Fx with Fx _ S8
 subst S8
 injection Fx with Fx
 injection Fx with Ta S9
 subst Ta S9
 simp only [iW]at Sl
 rw [IW]at hkr ⊢
 rw [IW]at dZ
 obtain⟨i,hi⟩:=bt (ia x.buf key)
 have hil:i<=x.buf.length:=by rw [<-hi];exact(ly hrow.1).1
 rw [hi]at dZ ⊢
 obtain⟨W1,hW1⟩:=bP (w.alloc (.cells #[.bool false, .slice es x.aF.length ec, .slice (some ⟨kb,0,none⟩) 4 kc, .slice (some ⟨db,0,none⟩) 5 dc, .slice (some ⟨gb,0,none⟩) bl bc] 119))
 have hb1:ah w W1:=by rw [hW1];exact ag
 have hz1:W1.heap.size=w.heap.size+1:=by rw [hW1];simp
 have kx:W1.heap[w.heap.size]?=some (.cells #[.bool false, .slice es x.aF.length ec, .slice (some ⟨kb,0,none⟩) 4 kc, .slice (some ⟨db,0,none⟩) 5 dc, .slice (some ⟨gb,0,none⟩) bl bc] 119):=by rw [hW1];exact aj _ _ rfl
 have BN:=h.below hb1 aH
 have hS1:nG (dA bb (.slice (some ⟨nb,0,none⟩) rs.length cap) rs) (dA bb (.slice (some ⟨nb,0,none⟩) rs.length cap) rs) w W1:=nG.of hb1 aH
 have HX:=hdd fun(W:World) (hT:aa0 (fun b=>b=bb\/b=nb) W1 W)=>(by
  have e1:W.heap[w.heap.size]?=_:=(hT.block _ af (by rintro(e|e) <;> omega)).trans kx
  have e2:W.heap[kb]?=w.heap[kb]?:=(hT.block kb af (by rintro(e|e);exact hko.1 e;exact hk2 e)).trans (hb1.block kb hkl)
  have e3:W.heap[db]?=w.heap[db]?:=(hT.block db af (by rintro(e|e);exact Tj.1 e;exact hd2 e)).trans (hb1.block db zO)
  have e4:∀g,(Value.slice (some ⟨gb,0,none⟩) bl bc).ownBlock=some g->W.heap[g]?=w.heap[g]?:=fun g hg=>(hT.block g (by have:=(oP.lt g hg).2;omega) (by rintro(e|e);exact(Fy g hg).1 e;exact(Fy g hg).2 e)).trans (hb1.block g (oP.lt g hg).2)
  refine⟨by simp [World.cell?,e1],by simp [World.cell?,e1],by simp [World.cell?,e1],by simp [World.cell?,e1],by rw [World.cell?_of_block (a:=⟨kb,1,none⟩) e2];exact Sl,hok.block fun g hg=>?_,sL.block fun g hg=>?_,oP.block e4⟩
  ·injection hg with hg;subst hg;exact e2
  ·injection hg with hg;subst hg;exact e3 :
  W.cell? ⟨w.heap.size,0,none⟩=some (.bool false)/\W.cell? ⟨w.heap.size,2,none⟩=some (.slice (some ⟨kb,0,none⟩) 4 kc)/\W.cell? ⟨w.heap.size,3,none⟩=some (.slice (some ⟨db,0,none⟩) 5 dc)/\W.cell? ⟨w.heap.size,4,none⟩=some (Value.slice (some ⟨gb,0,none⟩) bl bc)/\W.cell? ⟨kb,1,none⟩=some (.int .i64 key) /\
  bw M W (.slice (some ⟨kb,0,none⟩) x.keys.length kc) x.keys/\bw M W (.slice (some ⟨db,0,none⟩) x.kids.length dc) x.kids/\au M W (Value.slice (some ⟨gb,0,none⟩) bl bc) x.buf)
 have HC:=hdd fun(W:World) (hT:aa0 (fun b=>b=bb\/b=nb) W1 W)=>(by
  obtain⟨-,-,-,-,-,o1,o2,o3⟩:=HX.out W hT
  have a1:=rX (i:=2) o1 af af 2 (fun _=>rfl)
  have a2:=rW (i:=1) o1 af af
  have b1:=rX (i:=2) o2 af af 2 (fun _=>rfl)
  have b2:=rW (i:=2) o2 af af
  rw [h4]at a1
  rw [h5]at b1
  have hbc:x.buf.length<=bc:=by obtain⟨_,_,hv,h1,_⟩:=o3.at (by have:=hrow.2.2.2;omega);injection hv with _ _ hv3;omega
  rw [<-AY]at o3 ⊢
  have c1:=Dy (i:=i) o3 (by have:=hrow.2.2.2;omega) hil o (fun h=>by
   by_cases hb:bc=i
   ·omega
   ·rw [ai hb]at dZ;injection dZ with dZ;injection dZ with _ hs2;exact hs2.symm)
  have c2:=Dw (i:=i) o3 (by have:=hrow.2.2.2;omega) hil
  exact⟨dU a1,dU b1,acz c1,dU a2,dU b2,acz c2⟩ :
  Calls Tryd.prog 92 #[.slice (some ⟨kb,2,none⟩) (4-2) (kc-2)] W (fun e w'=>∃v',e = .returned v'/\w'.ownsRow W.heap.size 3 1 v' (x.keys.drop 2).length ((x.keys.drop 2).flatMap bX)/\ah W w') /\
  Calls Tryd.prog 92 #[.slice (some ⟨db,2,none⟩) (5-2) (dc-2)] W (fun e w'=>∃v',e = .returned v'/\w'.ownsRow W.heap.size 3 1 v' (x.kids.drop 2).length ((x.kids.drop 2).flatMap bX)/\ah W w') /\
  Calls Tryd.prog 88 #[.slice (some ⟨gb,o,none⟩) (bl-i) (bc-i)] W (fun e w'=>∃v',e = .returned v'/\w'.ownsRow W.heap.size 96 7 v' (x.buf.drop i).length ((x.buf.drop i).flatMap aZ)/\ah W w') /\
  Calls Tryd.prog 92 #[.slice (some ⟨kb,0,none⟩) 1 kc] W (fun e w'=>∃v',e = .returned v'/\w'.ownsRow W.heap.size 3 1 v' (x.keys.take 1).length ((x.keys.take 1).flatMap bX)/\ah W w') /\
  Calls Tryd.prog 92 #[.slice (some ⟨db,0,none⟩) 2 dc] W (fun e w'=>∃v',e = .returned v'/\w'.ownsRow W.heap.size 3 1 v' (x.kids.take 2).length ((x.kids.take 2).flatMap bX)/\ah W w') /\
  Calls Tryd.prog 88 #[.slice (some ⟨gb,0,none⟩) i bc] W (fun e w'=>∃v',e = .returned v'/\w'.ownsRow W.heap.size 96 7 v' (x.buf.take i).length ((x.buf.take i).flatMap aZ)/\ah W w'))
 have Iq:=hdd fun(W:World) (hT:aa0 (fun b=>b=bb\/b=nb) W1 W)=>(by
  have:=CS (x:=key) ((HX.out W hT).2.2.2.2.2.2.2.at (by have:=hrow.2.2.2;omega)) hrow.1 (fun e he=>by have:=hrow.2.2.1 e he;omega)
  rw [hi]at this
  exact this:Calls Tryd.prog 94 #[.slice (some ⟨gb,0,none⟩) bl bc, .int .i64 key] W fun r w'=>r = .returned (.tuple #[.int .i64 (i:Int), .bool (rq x.buf key)])/\ah W w')
 obtain⟨hs,G0⟩:=bt (rq x.buf key)
 rw [G0]at Iq
 clear G0
 obtain⟨KD,TG⟩:=bt (x.keys.drop 2)
 obtain⟨KT,TF⟩:=bt (x.keys.take 1)
 obtain⟨DD,TJ⟩:=bt (x.kids.drop 2)
 obtain⟨DT,TI⟩:=bt (x.kids.take 2)
 obtain⟨BD,TN⟩:=bt (x.buf.drop i)
 obtain⟨BT,TM⟩:=bt (x.buf.take i)
 rw [TG,TF,TJ,TI,TN,TM]at HC
 rw [TG,TF,TJ,TI,TN,TM]
 clear TG TF TJ TI TN TM
 obtain⟨i0,z0,hi0,hz0,Ei,Eh,Eg⟩:=pR
 have hlen:rs.length=t.nodes.length:=h.len
 have hrl:rs.length<=1000000000000:=af
 have eU:=hdd (aL BN (aL hS1 (aL kR sF)))
 have hg2:¬(kc=2):=af
 have hg3:(2:Int)<=(kc:Int):=af
 have hg4:(1:Int)<=(kc:Int):=af
 have Td:¬(dc=2):=af
 have WD:(2:Int)<=(dc:Int):=af
 have hbc:bl<=bc:=by
  rw [AY]at hil
  have:=hrow.2.2.2
  obtain⟨_,_,hv,h1,_⟩:=oP.at af
  injection hv with _ _ hv3;omega
 have agB:bl<=20:=by rw [<-AY];exact hrow.2.2.2
 rw [AY]at hil
 have mL:(i:Int)<=(bl:Int):=af
 have wj:(i:Int)<=(bc:Int):=af
 have agE:i<=bc:=af
 clear AY
 have Ev:bb<W1.heap.size:=af
 have Wm:nb<W1.heap.size:=af
 have c0':W1.cell? ⟨bb,0,none⟩=some (.slice (some ⟨nb,0,none⟩) rs.length cap):=(hb1.cell (p:=⟨bb,0,none⟩) hbl).trans c0
 obtain⟨q0,q2,q3,q4,qk,-⟩:=HX.out W1 (aa0.refl _ _)
 clear h hown hev yC BJ sj hl hlen hok sL oP BN hS1 hko Tj Fy kR sF IW hy Sl hrow hi hkr
 go_enter Tryd.func96,Tryd.ntmps96
 go_upto_region 2 with (fail)
 rw [<-hW1]
 clear hW1 k0 k1 k2 k3 k4 wG c0 kx
 have iI:=hdd fun(W:World) (hT:aa0 (fun b=>b=nb) W1 W)=>(by
  obtain⟨-,g2,g3,g4,-⟩:=HX.out W (hT.mono fun _ _ h=> .inr h)
  exact⟨(hT.cell Ev vC 0).trans c0',g2,g3,g4⟩:W.cell? ⟨bb,0,none⟩=some (.slice (some ⟨nb,0,none⟩) rs.length cap)/\W.cell? ⟨w.heap.size,2,none⟩=some (.slice (some ⟨kb,0,none⟩) 4 kc)/\W.cell? ⟨w.heap.size,3,none⟩=some (.slice (some ⟨db,0,none⟩) 5 dc)/\W.cell? ⟨w.heap.size,4,none⟩=some (Value.slice (some ⟨gb,0,none⟩) bl bc))
 clear c0'
 go_wp2_with ((go_at_call 94;(with_reducible refine(Iq.out _ (aa0.refl _ _)).mono ?_);rintro e w2 ⟨rfl,hb2⟩))
 clear q0 q2 q3 q4 qk
 have T2:aa0 (fun b=>b=nb) W1 w2:=aa0.of hb2 aH
 have T0:aa0 (fun b=>b=nb) W1 w2.drew:=T2.drew
 refine bJ [(0,1),(1,1),(2,1),(3,1),(4,1),(5,0),(6,1),(7,0),(8,1),(9,1),(11,1),(12,0),(13,1),(14,1),(16,1),(17,0),(18,1),(19,1),(10,2),(15,2),(20,2),(21,1),(22,2),(23,2),(24,1),(25,1),(26,1),(27,3)] 27 (fun W=>W.cell? ⟨bb,0,none⟩=some (.slice (some ⟨nb,0,none⟩) rs.length cap)/\W.cell? ⟨w.heap.size,2,none⟩=some (.slice (some ⟨kb,0,none⟩) 4 kc)/\W.cell? ⟨w.heap.size,3,none⟩=some (.slice (some ⟨db,0,none⟩) 5 dc)/\W.cell? ⟨w.heap.size,4,none⟩=some (Value.slice (some ⟨gb,0,none⟩) bl bc)) bT bT (iI.out _ T0) ?_
 (simp only [bG,List.filterMap_cons,List.filterMap_nil,List.getElem?_cons_zero,List.getElem?_cons_succ,Option.map_some])
 (repeat first|refine aY ?_|refine aX ?_)
 refine aP rfl (fun K hK=>?_)
 go_simp
 (with_reducible refine(HC.out _ (T0.mono fun _ _ h=> .inr h)).1.mono ?_);rintro e w3 ⟨v3,rfl,kj,hb3⟩
 obtain⟨s3,c3,rfl⟩:=(bw.mk kj).isSlice
 have T3:aa0 (fun b=>b=nb) W1 w3:=T0.trans (aa0.of hb3 aH)
 go_simp
 refine hK _ _ (iI.out _ T3) ?_
 clear hK K
 (repeat first|refine aY ?_|refine aX ?_)
 refine aP rfl (fun K hK=>?_)
 go_simp
 (with_reducible refine(HC.out _ (T3.mono fun _ _ h=> .inr h)).2.1.mono ?_);rintro e w4 ⟨v4,rfl,yA,hb4⟩
 obtain⟨s4,c4,rfl⟩:=(bw.mk yA).isSlice
 have T4:aa0 (fun b=>b=nb) W1 w4:=T3.trans (aa0.of hb4 aH)
 go_simp
 refine hK _ _ (iI.out _ T4) ?_
 clear hK K
 (repeat first|refine aY ?_|refine aX ?_)
 refine aP rfl (fun K hK=>?_)
 go_simp
 (with_reducible refine(HC.out _ (T4.mono fun _ _ h=> .inr h)).2.2.1.mono ?_);rintro e w5 ⟨v5,rfl,iD,cu⟩
 obtain⟨s5,c5,rfl⟩:=(au.mk iD).isSlice
 have T5:aa0 (fun b=>b=nb) W1 w5:=T4.trans (aa0.of cu aH)
 go_simp
 refine hK _ _ (iI.out _ T5) ?_
 clear hK K
 (repeat first|refine aY ?_|refine aX ?_)
 refine aP rfl (fun K hK=>?_)
 go_simp
 obtain⟨W6,tV⟩:=bP (w5.alloc (.cells #[.bool false, .slice none 0 0, .slice s3 KD.length c3, .slice s4 DD.length c4, .slice s5 BD.length c5] 119))
 have jf:ah w5 W6:=by rw [tV];exact ag
 have k6:W6.heap[w5.heap.size]?=some (.cells #[.bool false, .slice none 0 0, .slice s3 KD.length c3, .slice s4 DD.length c4, .slice s5 BD.length c5] 119):=by rw [tV];exact aj _ _ rfl
 have uB:W6.heap.size=w5.heap.size+1:=by rw [tV];simp
 rw [<-tV]
 have T6:aa0 (fun b=>b=nb) W1 W6:=T5.trans (aa0.of jf aH)
 refine hK _ _ (iI.out _ T6) ?_
 clear hK K tV
 have z2:W1.heap.size<=w2.heap.size:=T2.size
 have z3:w2.heap.size<=w3.heap.size:=hb3.size
 have z4:w3.heap.size<=w4.heap.size:=hb4.size
 have z5:w4.heap.size<=w5.heap.size:=cu.size
 have B3:ah w2 w3:=⟨hb3.os,hb3.tape,hb3.output,hb3.size,hb3.block⟩
 have B6:ah W1 W6:=Below.trans' (Below.trans' (Below.trans' (Below.trans' hb2 B3 z2) hb4 af) cu af) jf af
 have xD:=(eU.out.1.below B6 aH).row
 refine aP rfl (fun K hK=>?_)
 refine wp_append_lies _ (.tmp 108) (.tmp 125) 30 rfl M 119 i0 z0 5 104 Tryd.underlying30 hi0 hz0 Ei Eh Eg aW _ rs.length _ rfl xD ⟨w5.heap.size,0,none⟩ 1 1 (cI ⟨false, .slice none 0 0, .slice s3 KD.length c3, .slice s4 DD.length c4, .slice s5 BD.length c5⟩) rfl rfl (World.news_of_block k6) ?hone aW (by unfold maxLen;omega) af af W6.heap.size rfl ?_
 case hone=>
  intro u hu
  simp [cI]at hu
  rcases hu with rfl|rfl|rfl|rfl|rfl <;> rfl
 intro g cap' w7 xC uF Rc MK
 have T7:aa0 (fun b=>b=nb) W1 w7:=aa0.grown T6 uF (fun k hk=> .inl (by injection hk with hk;exact hk.symm))
 refine hK _ _ (iI.out _ T7) ?_
 clear hK K
 have vZ:g=nb\/g=W6.heap.size:=Rc.imp (fun h=>(cY h).symm) id
 have Ef:=uF.size
 have uA:∀b,W1.heap.size<=b->b<w5.heap.size->w7.heap[b]?=w5.heap[b]?:=fun b h1 h2=>(uF.block b af (fun e=>by have e:b=nb:=cY e;omega)).trans (jf.block b h2)
 have p3:∀g,(Value.slice s3 KD.length c3).ownBlock=some g->w2.heap.size<=g/\g<w3.heap.size:=fun g hg=>(kj.lt g hg)
 have p4:∀g,(Value.slice s4 DD.length c4).ownBlock=some g->w3.heap.size<=g/\g<w4.heap.size:=fun g hg=>yA.lt g hg
 have p5:∀g,(Value.slice s5 BD.length c5).ownBlock=some g->w4.heap.size<=g/\g<w5.heap.size:=fun g hg=>iD.lt g hg
 have o3:w7.ownsRow M 3 1 (.slice s3 KD.length c3) KD.length (KD.flatMap bX):=bZ (cM kj (by show M<=w2.heap.size;omega)) fun b hb=>by
  have:=p3 b hb
  exact(uA b af af).trans ((cu.block b af).trans (hb4.block b af))
 have o4:w7.ownsRow M 3 1 (.slice s4 DD.length c4) DD.length (DD.flatMap bX):=bZ (cM yA af) fun b hb=>by
  have:=p4 b hb
  exact(uA b af af).trans (cu.block b af)
 have o5:w7.ownsRow M 96 7 (.slice s5 BD.length c5) BD.length (BD.flatMap aZ):=bZ (cM iD af) fun b hb=>by
  have:=p5 b hb
  exact uA b af af
 obtain⟨yD,WE⟩:=CJ (M:=M) (H:=W1.heap.size) (w:=w7) (lf:=false) (x:=⟨false,[],KD,DD,BD⟩) (v1:= .slice s3 KD.length c3) (v2:= .slice s4 DD.length c4) (v3:= .slice s5 BD.length c5) (a:=w3.heap.size) (b:=w4.heap.size) (c:=w5.heap.size) rfl rfl o3 o4 o5 (fun g hg=>by have:=p3 g hg;omega) p4 p5 af z4 z5 af
 have iX:=hdd (eU.out.1.push (w1:=w7) (kY:= .slice (some ⟨g,0,none⟩) (rs.length+1) cap') (T7.mono fun b _ h=>by rw [h];rfl) xC (fun b hb=>by
   have hb:g=b:=cY hb
   subst hb
   rcases vZ with e|e
   ·left;rw [e];rfl
   ·right;rw [e];omega) yD (fun f b hb e=>by
   have e:g=b:=cY e
   have:=WE f b hb
   rcases vZ with e'|e' <;> omega))
 obtain⟨d0,-⟩:=iI.out _ T7
 have d1:w7.frozen? ⟨bb,0,none⟩=false:=(T7.frozen Ev vC 0).trans ((hb1.frozen (p:=⟨bb,0,none⟩) hbl).trans (FA 0))
 (repeat first|refine aY ?_|refine aX ?_)
 refine bn rfl (fun K hK=>?_)
 go_simp
 refine hK _ _ ?_
 clear hK K
 refine cy ?_
 have T8:aa0 (fun b=>b=bb\/b=nb) W1 (w7.setCell ⟨bb,0,none⟩ (.slice (some ⟨g,0,none⟩) (rs.length+1) cap')):=(T7.mono fun _ _ h=> .inr h).setCell (.inl (.inl rfl)) _
 generalize w7.setCell ⟨bb,0,none⟩ (.slice (some ⟨g,0,none⟩) (rs.length+1) cap')=W8 at iX T8 ⊢
 have hgX:w.heap.size≠g:=by
  rcases vZ with e|e
  ·rw [e];omega
  ·omega
 have Ou:∃rn:Raw,(⟨false, .slice none 0 0, .slice s3 KD.length c3, .slice s4 DD.length c4, .slice s5 BD.length c5⟩:Raw)=rn:=⟨_,rfl⟩
 obtain⟨rn,Ou⟩:=Ou
 rw [Ou]at iX
 clear iI T0 T2 T3 T4 T5 T6 T7 hb2 hb3 hb4 cu kj yA iD jf B3 B6 xD k6 xC uF Rc MK d0 d1 uA p3 p4 p5 o3 o4 o5 yD WE Ou z2 z3 z4 z5 uB Ef vZ
 have Em:(rs++[rn])[j]?=some r:=by rw [Ao hjl];exact eU.out.2.2.1
 have Oy:(rs++[rn]).length=rs.length+1:=bj
 have hcells:=iX.out.1
 rw [<-Oy]at hcells
 obtain⟨e0,-,-,-,-,-,Rs,-,e2,e3,e4⟩:=hcells.cells Em
 obtain⟨f0,f1,f2,f3,f4,-⟩:=hcells.cells Em |>.2
 rw [Oy]at e0
 have MP:=fun w'=>dR (ab:=g) (aV:=0) (n:=rs.length+1) (cap:=cap') (show (j:Int)=((j:Nat):Int) by rfl) af w'
 simp only [iW]at MP
 have iI:=hdd fun(W:World) (hT:ah W8 W)=>(by
  obtain⟨-,g2,g3,g4,-⟩:=HX.out W (T8.trans (aa0.of hT aH))
  exact⟨(hT.cell (p:=⟨bb,0,none⟩) e2).trans e0,g2,g3,g4⟩:W.cell? ⟨bb,0,none⟩=some (.slice (some ⟨g,0,none⟩) (rs.length+1) cap')/\W.cell? ⟨w.heap.size,2,none⟩=some (.slice (some ⟨kb,0,none⟩) 4 kc)/\W.cell? ⟨w.heap.size,3,none⟩=some (.slice (some ⟨db,0,none⟩) 5 dc)/\W.cell? ⟨w.heap.size,4,none⟩=some (Value.slice (some ⟨gb,0,none⟩) bl bc))
 have T0:ah W8 W8.drew:=(aI _ _).drew
 have UG:=hdd Rs
 have HE5:=hdd (aL f0 (aL f1 (aL f2 (aL f3 f4))))
 have Yc:=hdd hcells
 have aa7:IntKind.i64.wrap (1:Int)=1:=IntWalk.i64_in _ af
 clear hcells e0 Rs iu f0 f1 f2 f3 f4
 go_wp2_with fail
 refine bJ [(0,1),(1,1),(2,1),(3,1),(4,0),(5,1),(6,1),(7,0),(8,1),(9,1),(10,1),(12,1),(13,0),(14,1),(15,1),(17,1),(18,0),(19,1),(20,1),(11,2),(16,2),(21,2),(22,1),(23,1),(24,3)] 24 (fun W=>W.cell? ⟨bb,0,none⟩=some (.slice (some ⟨g,0,none⟩) (rs.length+1) cap')/\W.cell? ⟨w.heap.size,2,none⟩=some (.slice (some ⟨kb,0,none⟩) 4 kc)/\W.cell? ⟨w.heap.size,3,none⟩=some (.slice (some ⟨db,0,none⟩) 5 dc)/\W.cell? ⟨w.heap.size,4,none⟩=some (Value.slice (some ⟨gb,0,none⟩) bl bc)) bT bT (iI.out _ T0) ?_
 (simp only [bG,List.filterMap_cons,List.filterMap_nil,List.getElem?_cons_zero,List.getElem?_cons_succ,Option.map_some])
 (repeat first|refine aY ?_|refine aX ?_)
 refine aP rfl (fun K hK=>?_)
 go_simp
 (with_reducible refine(HC.out _ (T8.trans (aa0.of T0 aH))).2.2.2.1.mono ?_);rintro e w3 ⟨v3,rfl,kj,hb3⟩
 obtain⟨s3,c3,rfl⟩:=(bw.mk kj).isSlice
 have B3:ah W8 w3:=Below.trans' T0 hb3 aH
 go_simp
 refine hK _ _ (iI.out _ B3) ?_
 clear hK K
 (repeat first|refine aY ?_|refine aX ?_)
 refine aP rfl (fun K hK=>?_)
 go_simp
 (with_reducible refine(HC.out _ (T8.trans (aa0.of B3 aH))).2.2.2.2.1.mono ?_);rintro e w4 ⟨v4,rfl,yA,hb4⟩
 obtain⟨s4,c4,rfl⟩:=(bw.mk yA).isSlice
 have B4:ah W8 w4:=Below.trans' B3 hb4 B3.size
 go_simp
 refine hK _ _ (iI.out _ B4) ?_
 clear hK K
 (repeat first|refine aY ?_|refine aX ?_)
 refine aP rfl (fun K hK=>?_)
 go_simp
 (with_reducible refine(HC.out _ (T8.trans (aa0.of B4 aH))).2.2.2.2.2.mono ?_);rintro e w5 ⟨v5,rfl,iD,cu⟩
 obtain⟨s5,c5,rfl⟩:=(au.mk iD).isSlice
 have B5:ah W8 w5:=Below.trans' B4 cu B4.size
 go_simp
 refine hK _ _ (iI.out _ B5) ?_
 clear hK K
 have Ee:=T8.size
 have z3:W8.heap.size<=w3.heap.size:=hb3.size
 have z4:w3.heap.size<=w4.heap.size:=hb4.size
 have z5:w4.heap.size<=w5.heap.size:=cu.size
 have p3:∀g,(Value.slice s3 KT.length c3).ownBlock=some g->W8.heap.size<=g/\g<w3.heap.size:=fun g hg=>(kj.lt g hg)
 have p4:∀g,(Value.slice s4 DT.length c4).ownBlock=some g->w3.heap.size<=g/\g<w4.heap.size:=fun g hg=>yA.lt g hg
 have p5:∀g,(Value.slice s5 BT.length c5).ownBlock=some g->w4.heap.size<=g/\g<w5.heap.size:=fun g hg=>iD.lt g hg
 have o3:w5.ownsRow M 3 1 (.slice s3 KT.length c3) KT.length (KT.flatMap bX):=bZ (cM kj (by show M<=W8.heap.size;omega)) fun b hb=>by
  have:=p3 b hb
  exact(cu.block b af).trans (hb4.block b af)
 have o4:w5.ownsRow M 3 1 (.slice s4 DT.length c4) DT.length (DT.flatMap bX):=bZ (cM yA af) fun b hb=>by
  have:=p4 b hb
  exact cu.block b af
 have o5:w5.ownsRow M 96 7 (.slice s5 BT.length c5) BT.length (BT.flatMap aZ):=cM iD af
 obtain⟨yD,-⟩:=CJ (M:=M) (H:=W8.heap.size) (w:=w5) (lf:=false) (x:=⟨false,[],KT,DT,BT⟩) (v1:= .slice s3 KT.length c3) (v2:= .slice s4 DT.length c4) (v3:= .slice s5 BT.length c5) (a:=w3.heap.size) (b:=w4.heap.size) (c:=w5.heap.size) rfl rfl o3 o4 o5 p3 p4 p5 z3 z4 z5 aH
 have Uh:=hdd (Yc.out.whole (n:=j) rfl (by rw [Oy];omega) B5 yD)
 obtain⟨m0,m1,m2,m3,m4⟩:=HE5.out
 have d0:=(B5.cell (p:=⟨g,_,none⟩) e3).trans m0
 have d1:=(B5.cell (p:=⟨g,_,none⟩) e3).trans m1
 have d2:=(B5.cell (p:=⟨g,_,none⟩) e3).trans m2
 have d3:=(B5.cell (p:=⟨g,_,none⟩) e3).trans m3
 have d4:=(B5.cell (p:=⟨g,_,none⟩) e3).trans m4
 have df:∀o,w5.frozen? ⟨g,o,none⟩=false:=fun o=>(B5.frozen (p:=⟨g,_,none⟩) e3).trans (UG.out _)
 have c9:=(iI.out _ B5).1
 clear m0 m1 m2 m3 m4 iI kj yA iD hb3 hb4 cu B3 B4 B5 p3 p4 p5 o3 o4 o5 yD T0 T8 HC HX Iq
 (repeat first|refine aY ?_|refine aX ?_)
 refine bn rfl (fun K hK=>?_)
 go_simp
 refine hK _ _ ?_
 clear hK K
 refine cy ?_
 have f0:(((((w5.setCell ⟨g,j*5,none⟩ (.bool false)).setCell ⟨g,j*5+1,none⟩ (.slice none 0 0)).setCell ⟨g,j*5+2,none⟩ (.slice s3 KT.length c3)).setCell ⟨g,j*5+3,none⟩ (.slice s4 DT.length c4)).setCell ⟨g,j*5+4,none⟩ (.slice s5 BT.length c5)).cell? ⟨bb,0,none⟩=some (.slice (some ⟨g,0,none⟩) (rs.length+1) cap'):=by
  rw [World.cell?_of_block (a:=⟨bb,0,none⟩) (lF e4)];exact c9
 generalize ((((w5.setCell ⟨g,j*5,none⟩ (.bool false)).setCell ⟨g,j*5+1,none⟩ (.slice none 0 0)).setCell ⟨g,j*5+2,none⟩ (.slice s3 KT.length c3)).setCell ⟨g,j*5+3,none⟩ (.slice s4 DT.length c4)).setCell ⟨g,j*5+4,none⟩ (.slice s5 BT.length c5)=WA at Uh f0 ⊢
 clear d0 d1 d2 d3 d4 df c9
 have hw0:IntKind.i64.wrap ((rs.length:Int)+1-1)=(rs.length:Int)+1-1:=IntWalk.i64_in _ af
 have hw1:IntKind.i64.wrap ((rs.length:Int)+1-1)=(rs.length:Int):=by rw [hw0];omega
 clear hw0
 have hlen:rs.length=t.nodes.length:=eU.out.1.len
 go_wp2
 go_ret2
 exact⟨rfl,_,_,Uh.out.1.below (show ah WA _ from ag) aH,((eU.out.2.1.trans iX.out.2).trans Uh.out.2).trans (nG.of (show ah WA _ from ag) aH)⟩
end
section
set_option maxRecDepth 100000
set_option maxHeartbeats 6000000
theorem xV {M:Nat} {w:World} {bb nb cap j:Nat} {rs:List Raw} {t:Tr} {x:Nd} {r:Raw} (h:Bd M w bb (.slice (some ⟨nb,0,none⟩) rs.length cap) rs t) (kR:rs[j]?=some r) (sF:t.nodes[j]?=some x) (hjl:j<rs.length) (hown:gV M w r x) (sj:r.bv = .slice none 0 0)
  (hl:x.leaf=false) (h5:x.kids.length=5) (h4:x.keys.length=4) (hrow:vk x.buf) (hkr:0<=x.keys.getD 1 0/\x.keys.getD 1 0<=1099511627776) (hm:t.nodes.length<=1000000000000) (AY:x.buf=[]) :
  Calls Tryd.prog 96 #[.pointer (some ⟨bb,0,none⟩), .int .i64 (j:Int)] w fun e w'=>e = .returned (.tuple #[.int .i64 t.nodes.length, .int .i64 (x.keys.getD 1 0)]) /\
   kO M bb (dA bb (.slice (some ⟨nb,0,none⟩) rs.length cap) rs) w (cG (jq t ⟨false,[],x.keys.drop 2,x.kids.drop 2,x.buf.drop (ia x.buf (x.keys.getD 1 0))⟩) j ⟨false,[],x.keys.take 1,x.kids.take 2,x.buf.take (ia x.buf (x.keys.getD 1 0))⟩) w':=by
 obtain⟨c0,k0,k1,k2,k3,k4,wG,FA,hbl,hnl,vC⟩:=h.cells kR
 obtain⟨es,ec,hev⟩:=hown.aF.isSlice
 obtain⟨ks,kc,yC⟩:=hown.keys.isSlice
 obtain⟨ds,dc,BJ⟩:=hown.kids.isSlice
 have hok:=hown.keys
 have sL:=hown.kids
 have oP:=hown.buf
 rw [yC]at hok
 rw [BJ]at sL
 rw [sj]at oP
 obtain⟨kb,Si,hks,-,-⟩:=World.ownsRow.form hok.row af
 injection hks with S0 _ SY
 subst S0 SY
 obtain⟨db,OD,hds,-,-⟩:=World.ownsRow.form sL.row af
 injection hds with Ti _ Th
 subst Ti Th
 have hkc:4<=kc:=by obtain⟨_,_,hv,h1,_⟩:=hok.at af;injection hv with _ _ hv3;omega
 have hdc:5<=dc:=by obtain⟨_,_,hv,h1,_⟩:=sL.at af;injection hv with _ _ hv3;omega
 have hko:=h.off j r 1 kb kR (by show r.kv.ownBlock=_;rw [yC];rfl)
 have Tj:=h.off j r 2 db kR (by show r.dv.ownBlock=_;rw [BJ];rfl)
 have Fy:∀g,(Value.slice none 0 0).ownBlock=some g->g≠bb/\g≠nb:=fun g hg=>by
  have:=h.off j r 3 g kR (by show r.bv.ownBlock=_;rw [sj];exact hg)
  exact⟨this.1,fun e=>this.2 (by rw [e];rfl)⟩
 have hk2:kb≠nb:=fun e=>hko.2 (by rw [e];rfl)
 have hd2:db≠nb:=fun e=>Tj.2 (by rw [e];rfl)
 have hkl:kb<w.heap.size:=(hok.lt kb rfl).2
 have zO:db<w.heap.size:=(sL.lt db rfl).2
 have hM:M<=w.heap.size:=by have:=(h.lt bb (.inl rfl)).1;omega
 rw [hown.leaf,hl]at k0
 rw [hev]at k1
 rw [yC,h4]at k2
 rw [BJ,h5]at k3
 rw [sj]at k4
 have iu:=fun w'=>dR (ab:=nb) (aV:=0) (n:=rs.length) (cap:=cap) (show (j:Int)=((j:Nat):Int) by rfl) hjl w'
 simp only [iW]at iu
 obtain⟨key,hy⟩:∃y,x.keys[1]?=some y:=⟨x.keys[1],by simp [h4]⟩
 have IW:x.keys.getD 1 0=key:=by rw [List.getD_eq_getElem?_getD,hy];rfl
 obtain⟨_,_,_,Fx,-,Sl⟩:=gy.get (hok.at af) hy
 injection Fx with Fx _ S8
 subst S8
 injection Fx with Fx
 injection Fx with Ta S9
 subst Ta S9
 simp only [iW]at Sl
 rw [IW]at hkr ⊢
 obtain⟨i,hi⟩:=bt (ia x.buf key)
 have hil:i<=x.buf.length:=by rw [<-hi];exact(ly hrow.1).1
 rw [hi]
 obtain⟨W1,hW1⟩:=bP (w.alloc (.cells #[.bool false, .slice es x.aF.length ec, .slice (some ⟨kb,0,none⟩) 4 kc, .slice (some ⟨db,0,none⟩) 5 dc, .slice none 0 0] 119))
 have hb1:ah w W1:=by rw [hW1];exact ag
 have hz1:W1.heap.size=w.heap.size+1:=by rw [hW1];simp
 have kx:W1.heap[w.heap.size]?=some (.cells #[.bool false, .slice es x.aF.length ec, .slice (some ⟨kb,0,none⟩) 4 kc, .slice (some ⟨db,0,none⟩) 5 dc, .slice none 0 0] 119):=by rw [hW1];exact aj _ _ rfl
 have BN:=h.below hb1 aH
 have hS1:nG (dA bb (.slice (some ⟨nb,0,none⟩) rs.length cap) rs) (dA bb (.slice (some ⟨nb,0,none⟩) rs.length cap) rs) w W1:=nG.of hb1 aH
 have HX:=hdd fun(W:World) (hT:aa0 (fun b=>b=bb\/b=nb) W1 W)=>(by
  have e1:W.heap[w.heap.size]?=_:=(hT.block _ af (by rintro(e|e) <;> omega)).trans kx
  have e2:W.heap[kb]?=w.heap[kb]?:=(hT.block kb af (by rintro(e|e);exact hko.1 e;exact hk2 e)).trans (hb1.block kb hkl)
  have e3:W.heap[db]?=w.heap[db]?:=(hT.block db af (by rintro(e|e);exact Tj.1 e;exact hd2 e)).trans (hb1.block db zO)
  have e4:∀g,(Value.slice none 0 0).ownBlock=some g->W.heap[g]?=w.heap[g]?:=fun g hg=>(hT.block g (by have:=(oP.lt g hg).2;omega) (by rintro(e|e);exact(Fy g hg).1 e;exact(Fy g hg).2 e)).trans (hb1.block g (oP.lt g hg).2)
  refine⟨by simp [World.cell?,e1],by simp [World.cell?,e1],by simp [World.cell?,e1],by simp [World.cell?,e1],by rw [World.cell?_of_block (a:=⟨kb,1,none⟩) e2];exact Sl,hok.block fun g hg=>?_,sL.block fun g hg=>?_,oP.block e4⟩
  ·injection hg with hg;subst hg;exact e2
  ·injection hg with hg;subst hg;exact e3 :
  W.cell? ⟨w.heap.size,0,none⟩=some (.bool false)/\W.cell? ⟨w.heap.size,2,none⟩=some (.slice (some ⟨kb,0,none⟩) 4 kc)/\W.cell? ⟨w.heap.size,3,none⟩=some (.slice (some ⟨db,0,none⟩) 5 dc)/\W.cell? ⟨w.heap.size,4,none⟩=some (.slice none 0 0)/\W.cell? ⟨kb,1,none⟩=some (.int .i64 key) /\
  bw M W (.slice (some ⟨kb,0,none⟩) x.keys.length kc) x.keys/\bw M W (.slice (some ⟨db,0,none⟩) x.kids.length dc) x.kids/\au M W (.slice none 0 0) x.buf)
 have HC:=hdd fun(W:World) (hT:aa0 (fun b=>b=bb\/b=nb) W1 W)=>(by
  obtain⟨-,-,-,-,-,o1,o2,o3⟩:=HX.out W hT
  have a1:=rX (i:=2) o1 af af 2 (fun _=>rfl)
  have a2:=rW (i:=1) o1 af af
  have b1:=rX (i:=2) o2 af af 2 (fun _=>rfl)
  have b2:=rW (i:=2) o2 af af
  rw [h4]at a1
  rw [h5]at b1
  have c1:fu W (.slice none 0 0) (x.buf.drop i):=by rw [AY,List.drop_nil];exact dK.nil _ _ _ _
  have c2:fu W (.slice none 0 0) (x.buf.take i):=by rw [AY,List.take_nil];exact dK.nil _ _ _ _
  exact⟨dU a1,dU b1,acz c1,dU a2,dU b2,acz c2⟩ :
  Calls Tryd.prog 92 #[.slice (some ⟨kb,2,none⟩) (4-2) (kc-2)] W (fun e w'=>∃v',e = .returned v'/\w'.ownsRow W.heap.size 3 1 v' (x.keys.drop 2).length ((x.keys.drop 2).flatMap bX)/\ah W w') /\
  Calls Tryd.prog 92 #[.slice (some ⟨db,2,none⟩) (5-2) (dc-2)] W (fun e w'=>∃v',e = .returned v'/\w'.ownsRow W.heap.size 3 1 v' (x.kids.drop 2).length ((x.kids.drop 2).flatMap bX)/\ah W w') /\
  Calls Tryd.prog 88 #[.slice none 0 0] W (fun e w'=>∃v',e = .returned v'/\w'.ownsRow W.heap.size 96 7 v' (x.buf.drop i).length ((x.buf.drop i).flatMap aZ)/\ah W w') /\
  Calls Tryd.prog 92 #[.slice (some ⟨kb,0,none⟩) 1 kc] W (fun e w'=>∃v',e = .returned v'/\w'.ownsRow W.heap.size 3 1 v' (x.keys.take 1).length ((x.keys.take 1).flatMap bX)/\ah W w') /\
  Calls Tryd.prog 92 #[.slice (some ⟨db,0,none⟩) 2 dc] W (fun e w'=>∃v',e = .returned v'/\w'.ownsRow W.heap.size 3 1 v' (x.kids.take 2).length ((x.kids.take 2).flatMap bX)/\ah W w') /\
  Calls Tryd.prog 88 #[.slice none 0 0] W (fun e w'=>∃v',e = .returned v'/\w'.ownsRow W.heap.size 96 7 v' (x.buf.take i).length ((x.buf.take i).flatMap aZ)/\ah W w'))
 have Iq:=hdd fun(W:World) (hT:aa0 (fun b=>b=bb\/b=nb) W1 W)=>(by
  have:=CS (x:=key) ((HX.out W hT).2.2.2.2.2.2.2.at (by have:=hrow.2.2.2;omega)) hrow.1 (fun e he=>by have:=hrow.2.2.1 e he;omega)
  rw [hi]at this
  exact this:Calls Tryd.prog 94 #[.slice none 0 0, .int .i64 key] W fun r w'=>r = .returned (.tuple #[.int .i64 (i:Int), .bool (rq x.buf key)])/\ah W w')
 obtain⟨hs,G0⟩:=bt (rq x.buf key)
 rw [G0]at Iq
 clear G0
 obtain⟨KD,TG⟩:=bt (x.keys.drop 2)
 obtain⟨KT,TF⟩:=bt (x.keys.take 1)
 obtain⟨DD,TJ⟩:=bt (x.kids.drop 2)
 obtain⟨DT,TI⟩:=bt (x.kids.take 2)
 obtain⟨BD,TN⟩:=bt (x.buf.drop i)
 obtain⟨BT,TM⟩:=bt (x.buf.take i)
 rw [TG,TF,TJ,TI,TN,TM]at HC
 rw [TG,TF,TJ,TI,TN,TM]
 clear TG TF TJ TI TN TM
 obtain⟨i0,z0,hi0,hz0,Ei,Eh,Eg⟩:=pR
 have hlen:rs.length=t.nodes.length:=h.len
 have hrl:rs.length<=1000000000000:=af
 have eU:=hdd (aL BN (aL hS1 (aL kR sF)))
 have hg2:¬(kc=2):=af
 have hg3:(2:Int)<=(kc:Int):=af
 have hg4:(1:Int)<=(kc:Int):=af
 have Td:¬(dc=2):=af
 have WD:(2:Int)<=(dc:Int):=af
 have hi9:i=0:=by rw [AY]at hil;simpa using hil
 subst hi9
 clear AY hil
 have Ev:bb<W1.heap.size:=af
 have Wm:nb<W1.heap.size:=af
 have c0':W1.cell? ⟨bb,0,none⟩=some (.slice (some ⟨nb,0,none⟩) rs.length cap):=(hb1.cell (p:=⟨bb,0,none⟩) hbl).trans c0
 obtain⟨q0,q2,q3,q4,qk,-⟩:=HX.out W1 (aa0.refl _ _)
 clear h hown hev yC BJ sj hl hlen hok sL oP BN hS1 hko Tj Fy kR sF IW hy Sl hrow hi hkr
 go_enter Tryd.func96,Tryd.ntmps96
 go_upto_region 2 with (fail)
 rw [<-hW1]
 clear hW1 k0 k1 k2 k3 k4 wG c0 kx
 have iI:=hdd fun(W:World) (hT:aa0 (fun b=>b=nb) W1 W)=>(by
  obtain⟨-,g2,g3,g4,-⟩:=HX.out W (hT.mono fun _ _ h=> .inr h)
  exact⟨(hT.cell Ev vC 0).trans c0',g2,g3,g4⟩:W.cell? ⟨bb,0,none⟩=some (.slice (some ⟨nb,0,none⟩) rs.length cap)/\W.cell? ⟨w.heap.size,2,none⟩=some (.slice (some ⟨kb,0,none⟩) 4 kc)/\W.cell? ⟨w.heap.size,3,none⟩=some (.slice (some ⟨db,0,none⟩) 5 dc)/\W.cell? ⟨w.heap.size,4,none⟩=some (.slice none 0 0))
 clear c0'
 go_wp2_with ((go_at_call 94;(with_reducible refine(Iq.out _ (aa0.refl _ _)).mono ?_);rintro e w2 ⟨rfl,hb2⟩))
 clear q0 q2 q3 q4 qk
 have T2:aa0 (fun b=>b=nb) W1 w2:=aa0.of hb2 aH
 have T0:aa0 (fun b=>b=nb) W1 w2.drew:=T2.drew
 refine bJ [(0,1),(1,1),(2,1),(3,1),(4,1),(5,0),(6,1),(7,0),(8,1),(9,1),(11,1),(12,0),(13,1),(14,1),(16,1),(17,0),(18,1),(19,1),(10,2),(15,2),(20,2),(21,1),(22,2),(23,2),(24,1),(25,1),(26,1),(27,3)] 27 (fun W=>W.cell? ⟨bb,0,none⟩=some (.slice (some ⟨nb,0,none⟩) rs.length cap)/\W.cell? ⟨w.heap.size,2,none⟩=some (.slice (some ⟨kb,0,none⟩) 4 kc)/\W.cell? ⟨w.heap.size,3,none⟩=some (.slice (some ⟨db,0,none⟩) 5 dc)/\W.cell? ⟨w.heap.size,4,none⟩=some (.slice none 0 0)) bT bT (iI.out _ T0) ?_
 (simp only [bG,List.filterMap_cons,List.filterMap_nil,List.getElem?_cons_zero,List.getElem?_cons_succ,Option.map_some])
 (repeat first|refine aY ?_|refine aX ?_)
 refine aP rfl (fun K hK=>?_)
 go_simp
 (with_reducible refine(HC.out _ (T0.mono fun _ _ h=> .inr h)).1.mono ?_);rintro e w3 ⟨v3,rfl,kj,hb3⟩
 obtain⟨s3,c3,rfl⟩:=(bw.mk kj).isSlice
 have T3:aa0 (fun b=>b=nb) W1 w3:=T0.trans (aa0.of hb3 aH)
 go_simp
 refine hK _ _ (iI.out _ T3) ?_
 clear hK K
 (repeat first|refine aY ?_|refine aX ?_)
 refine aP rfl (fun K hK=>?_)
 go_simp
 (with_reducible refine(HC.out _ (T3.mono fun _ _ h=> .inr h)).2.1.mono ?_);rintro e w4 ⟨v4,rfl,yA,hb4⟩
 obtain⟨s4,c4,rfl⟩:=(bw.mk yA).isSlice
 have T4:aa0 (fun b=>b=nb) W1 w4:=T3.trans (aa0.of hb4 aH)
 go_simp
 refine hK _ _ (iI.out _ T4) ?_
 clear hK K
 (repeat first|refine aY ?_|refine aX ?_)
 refine aP rfl (fun K hK=>?_)
 go_simp
 (with_reducible refine(HC.out _ (T4.mono fun _ _ h=> .inr h)).2.2.1.mono ?_);rintro e w5 ⟨v5,rfl,iD,cu⟩
 obtain⟨s5,c5,rfl⟩:=(au.mk iD).isSlice
 have T5:aa0 (fun b=>b=nb) W1 w5:=T4.trans (aa0.of cu aH)
 go_simp
 refine hK _ _ (iI.out _ T5) ?_
 clear hK K
 (repeat first|refine aY ?_|refine aX ?_)
 refine aP rfl (fun K hK=>?_)
 go_simp
 obtain⟨W6,tV⟩:=bP (w5.alloc (.cells #[.bool false, .slice none 0 0, .slice s3 KD.length c3, .slice s4 DD.length c4, .slice s5 BD.length c5] 119))
 have jf:ah w5 W6:=by rw [tV];exact ag
 have k6:W6.heap[w5.heap.size]?=some (.cells #[.bool false, .slice none 0 0, .slice s3 KD.length c3, .slice s4 DD.length c4, .slice s5 BD.length c5] 119):=by rw [tV];exact aj _ _ rfl
 have uB:W6.heap.size=w5.heap.size+1:=by rw [tV];simp
 rw [<-tV]
 have T6:aa0 (fun b=>b=nb) W1 W6:=T5.trans (aa0.of jf aH)
 refine hK _ _ (iI.out _ T6) ?_
 clear hK K tV
 have z2:W1.heap.size<=w2.heap.size:=T2.size
 have z3:w2.heap.size<=w3.heap.size:=hb3.size
 have z4:w3.heap.size<=w4.heap.size:=hb4.size
 have z5:w4.heap.size<=w5.heap.size:=cu.size
 have B3:ah w2 w3:=⟨hb3.os,hb3.tape,hb3.output,hb3.size,hb3.block⟩
 have B6:ah W1 W6:=Below.trans' (Below.trans' (Below.trans' (Below.trans' hb2 B3 z2) hb4 af) cu af) jf af
 have xD:=(eU.out.1.below B6 aH).row
 refine aP rfl (fun K hK=>?_)
 refine wp_append_lies _ (.tmp 108) (.tmp 125) 30 rfl M 119 i0 z0 5 104 Tryd.underlying30 hi0 hz0 Ei Eh Eg aW _ rs.length _ rfl xD ⟨w5.heap.size,0,none⟩ 1 1 (cI ⟨false, .slice none 0 0, .slice s3 KD.length c3, .slice s4 DD.length c4, .slice s5 BD.length c5⟩) rfl rfl (World.news_of_block k6) ?hone aW (by unfold maxLen;omega) af af W6.heap.size rfl ?_
 case hone=>
  intro u hu
  simp [cI]at hu
  rcases hu with rfl|rfl|rfl|rfl|rfl <;> rfl
 intro g cap' w7 xC uF Rc MK
 have T7:aa0 (fun b=>b=nb) W1 w7:=aa0.grown T6 uF (fun k hk=> .inl (by injection hk with hk;exact hk.symm))
 refine hK _ _ (iI.out _ T7) ?_
 clear hK K
 have vZ:g=nb\/g=W6.heap.size:=Rc.imp (fun h=>(cY h).symm) id
 have Ef:=uF.size
 have uA:∀b,W1.heap.size<=b->b<w5.heap.size->w7.heap[b]?=w5.heap[b]?:=fun b h1 h2=>(uF.block b af (fun e=>by have e:b=nb:=cY e;omega)).trans (jf.block b h2)
 have p3:∀g,(Value.slice s3 KD.length c3).ownBlock=some g->w2.heap.size<=g/\g<w3.heap.size:=fun g hg=>(kj.lt g hg)
 have p4:∀g,(Value.slice s4 DD.length c4).ownBlock=some g->w3.heap.size<=g/\g<w4.heap.size:=fun g hg=>yA.lt g hg
 have p5:∀g,(Value.slice s5 BD.length c5).ownBlock=some g->w4.heap.size<=g/\g<w5.heap.size:=fun g hg=>iD.lt g hg
 have o3:w7.ownsRow M 3 1 (.slice s3 KD.length c3) KD.length (KD.flatMap bX):=bZ (cM kj (by show M<=w2.heap.size;omega)) fun b hb=>by
  have:=p3 b hb
  exact(uA b af af).trans ((cu.block b af).trans (hb4.block b af))
 have o4:w7.ownsRow M 3 1 (.slice s4 DD.length c4) DD.length (DD.flatMap bX):=bZ (cM yA af) fun b hb=>by
  have:=p4 b hb
  exact(uA b af af).trans (cu.block b af)
 have o5:w7.ownsRow M 96 7 (.slice s5 BD.length c5) BD.length (BD.flatMap aZ):=bZ (cM iD af) fun b hb=>by
  have:=p5 b hb
  exact uA b af af
 obtain⟨yD,WE⟩:=CJ (M:=M) (H:=W1.heap.size) (w:=w7) (lf:=false) (x:=⟨false,[],KD,DD,BD⟩) (v1:= .slice s3 KD.length c3) (v2:= .slice s4 DD.length c4) (v3:= .slice s5 BD.length c5) (a:=w3.heap.size) (b:=w4.heap.size) (c:=w5.heap.size) rfl rfl o3 o4 o5 (fun g hg=>by have:=p3 g hg;omega) p4 p5 af z4 z5 af
 have iX:=hdd (eU.out.1.push (w1:=w7) (kY:= .slice (some ⟨g,0,none⟩) (rs.length+1) cap') (T7.mono fun b _ h=>by rw [h];rfl) xC (fun b hb=>by
   have hb:g=b:=cY hb
   subst hb
   rcases vZ with e|e
   ·left;rw [e];rfl
   ·right;rw [e];omega) yD (fun f b hb e=>by
   have e:g=b:=cY e
   have:=WE f b hb
   rcases vZ with e'|e' <;> omega))
 obtain⟨d0,-⟩:=iI.out _ T7
 have d1:w7.frozen? ⟨bb,0,none⟩=false:=(T7.frozen Ev vC 0).trans ((hb1.frozen (p:=⟨bb,0,none⟩) hbl).trans (FA 0))
 (repeat first|refine aY ?_|refine aX ?_)
 refine bn rfl (fun K hK=>?_)
 go_simp
 refine hK _ _ ?_
 clear hK K
 refine cy ?_
 have T8:aa0 (fun b=>b=bb\/b=nb) W1 (w7.setCell ⟨bb,0,none⟩ (.slice (some ⟨g,0,none⟩) (rs.length+1) cap')):=(T7.mono fun _ _ h=> .inr h).setCell (.inl (.inl rfl)) _
 generalize w7.setCell ⟨bb,0,none⟩ (.slice (some ⟨g,0,none⟩) (rs.length+1) cap')=W8 at iX T8 ⊢
 have hgX:w.heap.size≠g:=by
  rcases vZ with e|e
  ·rw [e];omega
  ·omega
 have Ou:∃rn:Raw,(⟨false, .slice none 0 0, .slice s3 KD.length c3, .slice s4 DD.length c4, .slice s5 BD.length c5⟩:Raw)=rn:=⟨_,rfl⟩
 obtain⟨rn,Ou⟩:=Ou
 rw [Ou]at iX
 clear iI T0 T2 T3 T4 T5 T6 T7 hb2 hb3 hb4 cu kj yA iD jf B3 B6 xD k6 xC uF Rc MK d0 d1 uA p3 p4 p5 o3 o4 o5 yD WE Ou z2 z3 z4 z5 uB Ef vZ
 have Em:(rs++[rn])[j]?=some r:=by rw [Ao hjl];exact eU.out.2.2.1
 have Oy:(rs++[rn]).length=rs.length+1:=bj
 have hcells:=iX.out.1
 rw [<-Oy]at hcells
 obtain⟨e0,-,-,-,-,-,Rs,-,e2,e3,e4⟩:=hcells.cells Em
 obtain⟨f0,f1,f2,f3,f4,-⟩:=hcells.cells Em |>.2
 rw [Oy]at e0
 have MP:=fun w'=>dR (ab:=g) (aV:=0) (n:=rs.length+1) (cap:=cap') (show (j:Int)=((j:Nat):Int) by rfl) af w'
 simp only [iW]at MP
 have iI:=hdd fun(W:World) (hT:ah W8 W)=>(by
  obtain⟨-,g2,g3,g4,-⟩:=HX.out W (T8.trans (aa0.of hT aH))
  exact⟨(hT.cell (p:=⟨bb,0,none⟩) e2).trans e0,g2,g3,g4⟩:W.cell? ⟨bb,0,none⟩=some (.slice (some ⟨g,0,none⟩) (rs.length+1) cap')/\W.cell? ⟨w.heap.size,2,none⟩=some (.slice (some ⟨kb,0,none⟩) 4 kc)/\W.cell? ⟨w.heap.size,3,none⟩=some (.slice (some ⟨db,0,none⟩) 5 dc)/\W.cell? ⟨w.heap.size,4,none⟩=some (.slice none 0 0))
 have T0:ah W8 W8.drew:=(aI _ _).drew
 have UG:=hdd Rs
 have HE5:=hdd (aL f0 (aL f1 (aL f2 (aL f3 f4))))
 have Yc:=hdd hcells
 have aa7:IntKind.i64.wrap (1:Int)=1:=IntWalk.i64_in _ af
 clear hcells e0 Rs iu f0 f1 f2 f3 f4
 go_wp2_with fail
 refine bJ [(0,1),(1,1),(2,1),(3,1),(4,0),(5,1),(6,1),(7,0),(8,1),(9,1),(10,1),(12,1),(13,0),(14,1),(15,1),(17,1),(18,0),(19,1),(20,1),(11,2),(16,2),(21,2),(22,1),(23,1),(24,3)] 24 (fun W=>W.cell? ⟨bb,0,none⟩=some (.slice (some ⟨g,0,none⟩) (rs.length+1) cap')/\W.cell? ⟨w.heap.size,2,none⟩=some (.slice (some ⟨kb,0,none⟩) 4 kc)/\W.cell? ⟨w.heap.size,3,none⟩=some (.slice (some ⟨db,0,none⟩) 5 dc)/\W.cell? ⟨w.heap.size,4,none⟩=some (.slice none 0 0)) bT bT (iI.out _ T0) ?_
 (simp only [bG,List.filterMap_cons,List.filterMap_nil,List.getElem?_cons_zero,List.getElem?_cons_succ,Option.map_some])
 (repeat first|refine aY ?_|refine aX ?_)
 refine aP rfl (fun K hK=>?_)
 go_simp
 (with_reducible refine(HC.out _ (T8.trans (aa0.of T0 aH))).2.2.2.1.mono ?_);rintro e w3 ⟨v3,rfl,kj,hb3⟩
 obtain⟨s3,c3,rfl⟩:=(bw.mk kj).isSlice
 have B3:ah W8 w3:=Below.trans' T0 hb3 aH
 go_simp
 refine hK _ _ (iI.out _ B3) ?_
 clear hK K
 (repeat first|refine aY ?_|refine aX ?_)
 refine aP rfl (fun K hK=>?_)
 go_simp
 (with_reducible refine(HC.out _ (T8.trans (aa0.of B3 aH))).2.2.2.2.1.mono ?_);rintro e w4 ⟨v4,rfl,yA,hb4⟩
 obtain⟨s4,c4,rfl⟩:=(bw.mk yA).isSlice
 have B4:ah W8 w4:=Below.trans' B3 hb4 B3.size
 go_simp
 refine hK _ _ (iI.out _ B4) ?_
 clear hK K
 (repeat first|refine aY ?_|refine aX ?_)
 refine aP rfl (fun K hK=>?_)
 go_simp
 (with_reducible refine(HC.out _ (T8.trans (aa0.of B4 aH))).2.2.2.2.2.mono ?_);rintro e w5 ⟨v5,rfl,iD,cu⟩
 obtain⟨s5,c5,rfl⟩:=(au.mk iD).isSlice
 have B5:ah W8 w5:=Below.trans' B4 cu B4.size
 go_simp
 refine hK _ _ (iI.out _ B5) ?_
 clear hK K
 have Ee:=T8.size
 have z3:W8.heap.size<=w3.heap.size:=hb3.size
 have z4:w3.heap.size<=w4.heap.size:=hb4.size
 have z5:w4.heap.size<=w5.heap.size:=cu.size
 have p3:∀g,(Value.slice s3 KT.length c3).ownBlock=some g->W8.heap.size<=g/\g<w3.heap.size:=fun g hg=>(kj.lt g hg)
 have p4:∀g,(Value.slice s4 DT.length c4).ownBlock=some g->w3.heap.size<=g/\g<w4.heap.size:=fun g hg=>yA.lt g hg
 have p5:∀g,(Value.slice s5 BT.length c5).ownBlock=some g->w4.heap.size<=g/\g<w5.heap.size:=fun g hg=>iD.lt g hg
 have o3:w5.ownsRow M 3 1 (.slice s3 KT.length c3) KT.length (KT.flatMap bX):=bZ (cM kj (by show M<=W8.heap.size;omega)) fun b hb=>by
  have:=p3 b hb
  exact(cu.block b af).trans (hb4.block b af)
 have o4:w5.ownsRow M 3 1 (.slice s4 DT.length c4) DT.length (DT.flatMap bX):=bZ (cM yA af) fun b hb=>by
  have:=p4 b hb
  exact cu.block b af
 have o5:w5.ownsRow M 96 7 (.slice s5 BT.length c5) BT.length (BT.flatMap aZ):=cM iD af
 obtain⟨yD,-⟩:=CJ (M:=M) (H:=W8.heap.size) (w:=w5) (lf:=false) (x:=⟨false,[],KT,DT,BT⟩) (v1:= .slice s3 KT.length c3) (v2:= .slice s4 DT.length c4) (v3:= .slice s5 BT.length c5) (a:=w3.heap.size) (b:=w4.heap.size) (c:=w5.heap.size) rfl rfl o3 o4 o5 p3 p4 p5 z3 z4 z5 aH
 have Uh:=hdd (Yc.out.whole (n:=j) rfl (by rw [Oy];omega) B5 yD)
 obtain⟨m0,m1,m2,m3,m4⟩:=HE5.out
 have d0:=(B5.cell (p:=⟨g,_,none⟩) e3).trans m0
 have d1:=(B5.cell (p:=⟨g,_,none⟩) e3).trans m1
 have d2:=(B5.cell (p:=⟨g,_,none⟩) e3).trans m2
 have d3:=(B5.cell (p:=⟨g,_,none⟩) e3).trans m3
 have d4:=(B5.cell (p:=⟨g,_,none⟩) e3).trans m4
 have df:∀o,w5.frozen? ⟨g,o,none⟩=false:=fun o=>(B5.frozen (p:=⟨g,_,none⟩) e3).trans (UG.out _)
 have c9:=(iI.out _ B5).1
 clear m0 m1 m2 m3 m4 iI kj yA iD hb3 hb4 cu B3 B4 B5 p3 p4 p5 o3 o4 o5 yD T0 T8 HC HX Iq
 (repeat first|refine aY ?_|refine aX ?_)
 refine bn rfl (fun K hK=>?_)
 go_simp
 refine hK _ _ ?_
 clear hK K
 refine cy ?_
 have f0:(((((w5.setCell ⟨g,j*5,none⟩ (.bool false)).setCell ⟨g,j*5+1,none⟩ (.slice none 0 0)).setCell ⟨g,j*5+2,none⟩ (.slice s3 KT.length c3)).setCell ⟨g,j*5+3,none⟩ (.slice s4 DT.length c4)).setCell ⟨g,j*5+4,none⟩ (.slice s5 BT.length c5)).cell? ⟨bb,0,none⟩=some (.slice (some ⟨g,0,none⟩) (rs.length+1) cap'):=by
  rw [World.cell?_of_block (a:=⟨bb,0,none⟩) (lF e4)];exact c9
 generalize ((((w5.setCell ⟨g,j*5,none⟩ (.bool false)).setCell ⟨g,j*5+1,none⟩ (.slice none 0 0)).setCell ⟨g,j*5+2,none⟩ (.slice s3 KT.length c3)).setCell ⟨g,j*5+3,none⟩ (.slice s4 DT.length c4)).setCell ⟨g,j*5+4,none⟩ (.slice s5 BT.length c5)=WA at Uh f0 ⊢
 clear d0 d1 d2 d3 d4 df c9
 have hw0:IntKind.i64.wrap ((rs.length:Int)+1-1)=(rs.length:Int)+1-1:=IntWalk.i64_in _ af
 have hw1:IntKind.i64.wrap ((rs.length:Int)+1-1)=(rs.length:Int):=by rw [hw0];omega
 clear hw0
 have hlen:rs.length=t.nodes.length:=eU.out.1.len
 go_wp2
 go_ret2
 exact⟨rfl,_,_,Uh.out.1.below (show ah WA _ from ag) aH,((eU.out.2.1.trans iX.out.2).trans Uh.out.2).trans (nG.of (show ah WA _ from ag) aH)⟩
end
theorem vM {M:Nat} {w:World} {bb:Nat} {nv:Value} {rs:List Raw} {t t':Tr} {n more key:Int} (h:Bd M w bb nv rs t) (hF:gW t n=some (t',more,key)) :
  Calls Tryd.prog 96 #[.pointer (some ⟨bb,0,none⟩), .int .i64 n] w fun e w'=>e = .returned (.tuple #[.int .i64 more, .int .i64 key])/\kO M bb (dA bb nv rs) w t' w':=by
 unfold gW at hF
 split at hF
 ·cases hF
 ·rename_i x hx
  split at hF
  ·rename_i hl
   split at hF
   ·rename_i h6
    injection hF with hF
    injection hF with h1 h2
    injection h2 with h2 h3
    subst h1 h2 h3
    exact yU h hx (.inl ⟨hl,h6⟩)
   ·split at hF
    ·rename_i hg
     injection hF with hF
     injection hF with h1 h2
     injection h2 with h2 h3
     subst h1 h2 h3
     exact FQ h hx hl hg.1 hg.2
    ·cases hF
  ·rename_i hl
   have hl:x.leaf=false:=by simpa using hl
   split at hF
   ·rename_i h4
    injection hF with hF
    injection hF with h1 h2
    injection h2 with h2 h3
    subst h1 h2 h3
    exact yU h hx (.inr ⟨hl,h4⟩)
   ·split at hF
    ·rename_i hg
     obtain⟨g1,g2,g3,g4,g5⟩:=hg
     injection hF with hF
     injection hF with h1 h2
     injection h2 with h2 h3
     subst h1 h2 h3
     obtain⟨j,nb,cap,r,rfl,rfl,kR,sF,hjl,hown⟩:=h.place hx
     obtain⟨-,⟨sj,hb0⟩|⟨gb,bc,cur,sj,-⟩⟩:=hown.buf.row
     ·exact xV h kR sF hjl hown sj hl g1 g2 g3 g4 g5 (wO hb0)
     ·by_cases hc:bc=ia x.buf (x.keys.getD 1 0)
      ·exact aaL (o:=0) h kR sF hjl hown sj hl g1 g2 g3 g4 g5 rfl (by rw [ar hc])
      ·exact aaL h kR sF hjl hown sj hl g1 g2 g3 g4 g5 rfl (by rw [ai hc])
    ·cases hF
end Go.Proofs.YtmljjfhgciaceaaDoor
