/- Lemmas of the proof. -/
import Derived.Test.YtmljjfhgciaceaaGreatDoorHd
import Derived.Test.YtmljjfhgciaceaaGreatDoorCz
import Derived.Test.YtmljjfhgciaceaaGreatDoorDG
import Derived.Test.YtmljjfhgciaceaaGreatDoorIG
import Derived.Test.YtmljjfhgciaceaaGreatDoorSO
import Derived.Test.YtmljjfhgciaceaaGreatDoorAW
set_option maxRecDepth 100000
set_option maxHeartbeats 6000000
namespace Go.Proofs.YtmljjfhgciaceaaGreatDoor
open Go.RowKit
section
variable {n:Int} {t t':Tr} {w:World}
theorem KY {e:aH} (h:rQ n t e=some t'):∃x b,t.dm n=some x/\yZ x.buf/\mf e/\gJ x.buf e=some b/\t'=dz t n { x with buf:=b }:=by
 unfold rQ at h
 split at h
 ·cases h
 ·rename_i x hx
  obtain⟨b,hb,rfl⟩:=Option.map_eq_some_iff.1 h;unfold A8 at hb
  split at hb
  ·rename_i hg
   exact⟨x,b,hx,hg.1,hg.2,hb,rfl⟩
  ·cases hb
theorem Hz {B:Nat} {F F':Nat->Prop} {w':World} {v:Value} {es:List aH} (h:ay B w v es) (hs:qB F F' w w') (hF:∀b,v.ownBlock=some b->¬F b):ay B w' v es/\∀b,v.ownBlock=some b->¬F' b:=
 ⟨h.block fun g hg=>(hs.stay (h.lt g hg).2 (hF g hg)).1,fun b hb=>(hs.stay (h.lt b hb).2 (hF b hb)).2⟩
def mZ (M:Nat) (bb:Nat) (F:Nat->Prop) (w:World) (t':Tr) (w':World):Prop:=∃nz rs',Bd M w' bb nz rs' t'/\qB F (dY bb nz rs') w w'
theorem QH {M:Nat} {bb:Nat} {nv:Value} {rs:List Raw} {key:Int} {dv:Value} {all:List aH} (h:Bd M w bb nv rs t) (hd:ay M w dv all) (hdF:∀b,dv.ownBlock=some b->¬dY bb nv rs b) (hl:all.length<=20)
  (hF:(all.filter fun d=>decide (key<d.key)).foldlM (rQ n) t=some t') :
  Calls Tryz.prog 128 #[.pointer (some (bb,0)),af n,dv,af key] w fun e w'=>e = .returned (.tuple #[])/\mZ M bb (dY bb nv rs) w t' w':=by
 obtain⟨ds,dc,rfl⟩:=hd.isSlice;have HST:=ag (aJ h (aJ hd (aJ hdF hF)));clear h hd hdF hF;go_enter Tryz.func128,Tryz.ntmps128;go_wp2_with fail
 go_loopg [12] all (fun g i wr=>∃k:Nat,k<=all/\g=all-k/\i=af k/\Hid (∃nz rs' tk,Bd M wr bb nz rs' tk/\qB (dY bb nv rs) (dY bb nz rs') w wr/\ay M wr (ah ds all dc) all/\(∀b,(ah ds all dc).ownBlock=some b->¬dY bb nz rs' b)/\((all.drop k).filter fun d=>decide (key<d.key)).foldlM (rQ n) tk=some t'))
 case atStart=>exact⟨0,eY _,rfl,rfl,ag ⟨nv,rs,t,HST.1,qB.refl _ _,HST.2.1,HST.2.2.1,HST.2.2.2⟩⟩
 case round=>
  clear HST;obtain⟨k,hk,rfl,rfl,HR⟩:=hrel;obtain⟨nz,rs',tk,hB,hS,ho,hoF,hf⟩:=HR.out;by_cases ir:k<all
  ·obtain⟨_,_,hv,-,-,-,-,h5⟩:=ho.at ai;injection hv with hv1 _ hv3;subst hv3;obtain⟨eb,cM,ll,pq,jF⟩:=h5 ai;subst ll;subst hv1;obtain⟨y0,y1,y2,y3,y4,y5,y6⟩:=br (aW _ _) pq jF ir;obtain⟨y,hy⟩:=bG (all[k]);rw [hy]at y0 y1 y2 y3 y4 y5 y6;rw [qI ir,hy]at hf;obtain⟨W8,mq⟩:=cd (wr.alloc (.cells #[af y.key,af y.is.c,af y.is.s,af y.is.mi,af y.is.ma,af y.is.t,af y.is.l] 107));have jf:aq wr W8:=by rw [mq];exact aj
   have IV:W8=wr.heap.size+1:=by rw [mq];simp
   have k8:W8.heap[wr.heap.size]?=some (.cells #[af y.key,af y.is.c,af y.is.s,af y.is.mi,af y.is.ma,af y.is.t,af y.is.l] 107):=by rw [mq];exact au _ _ rfl
   have NC:=hB.below jf aO;have hS8:=hS.trans (qB.of (F:=dY bb nz rs') jf aO);have yr:=ho.below jf aO;have hF8:¬dY bb nz rs' wr:=fun hf=>by have:=(hB.lt _ hf).2;omega
   have jA:=fun w'=>cN (ab:=eb) (aR:=cM) (n:=all.length) (cap:=dc) (show (k:Int)=((k:Nat):Int) by rfl) ir w';have s0:W8.cell? (wr,0)=some (af y.key):=by simp [World.cell?,k8]
   have HK8:=ag k8;have gV:=ag (aJ NC (aJ hS8 (aJ yr hoF)));have HF8:=ag hF8;go_upto_region 3 with (fail);rw [<-mq];clear hB hS ho hoF mq NC hS8 yr jF h5 hy y0 y1 y2 y3 y4 y5 y6 k8 jA HR hF8;by_cases i1:key<y.key
   ·rw [uS (by simpa using i1),List.foldlM_cons]at hf
    cases hr:rQ n tk y with
    |none=>rw [hr]at hf;cases hf
    |some t1=>
     rw [hr]at hf;have adq:=ag (show ((all.drop (k+1)).filter fun d=>decide (key<d.key)).foldlM (rQ n) t1=some t' from hf);obtain⟨x,b,hx,hrow,hent,hins,ht1⟩:=KY hr;obtain⟨NC,hS8,yr,hoF⟩:=gV.out;obtain⟨j,nb,cap,r,rfl,rfl,mo,wm,hjl,hown⟩:=NC.place hx;obtain⟨c0,-,-,-,-,c4,zP,Kr,hbl,hnl,xj⟩:=NC.cells mo;obtain⟨bs,bc,vR⟩:=hown.buf.isSlice;rw [vR]at c4;have hm:=xe (w:=W8.drew) (x:=y) (ay.drew (vR▸hown.buf)) (by have:=NC.low;show M<=W8;omega) (by have:=hrow.2.2.2;omega) hrow.1 (fun e he=>(hrow.2.1 e he).2) hent.2.1 hrow.2.2.1 hent.2.2;rw [hins]at hm;have HM:=ag hm;have jh:=fun w'=>dU (ab:=nb) (aR:=0) (n:=rs'.length) (cap:=cap) (show (j:Int)=((j:Nat):Int) by rfl) hjl w';simp only [iR]at jh;have jO:=ag fun(W:World) (hT:aA (fun b=>(ah bs x.buf bc).ownBlock=some b) W8 W)=>(by
      have g1:∀b,b<W8.heap.size->(ah bs x.buf bc).ownBlock≠some b->∀o,W.cell? ⟨b,o,none⟩=W8.cell? ⟨b,o,none⟩:=fun b hb hne o=>hT.cell hb hne o;have hsl:∀b,(ah bs x.buf bc).ownBlock=some b->b≠bb/\b≠nb/\b≠wr.heap.size:=fun b hb=>by
       rw [<-vR]at hb;have:=NC.off j r 3 b mo hb;exact⟨this.1,fun e=>this.2 (by rw [e];rfl),fun e=>HF8 (by rw [<-e];exact .inr (.inr ⟨j,r,3,mo,hb⟩))⟩
      have e1:=g1 bb hbl (fun h=>(hsl bb h).1 rfl);have e2:=g1 nb hnl (fun h=>(hsl nb h).2.1 rfl);have e3:=g1 wr ai (fun h=>(hsl _ h).2.2 rfl);refine⟨(e1 0).trans c0,(e2 _).trans c4,?_⟩;rw [e3,e3,e3,e3,e3,e3,e3];simp [World.cell?,HK8.out]:W.cell? (bb,0)=some (ah nb rs' cap)/\W.cell? (nb,j*5+4)=some (ah bs x.buf bc)/\(W,wr.heap.size,0,y.key)/\(W,wr.heap.size,1,y.is.c)/\(W,wr.heap.size,2,y.is.s)/\(W,wr.heap.size,3,y.is.mi)/\(W,wr.heap.size,4,y.is.ma)/\(W,wr.heap.size,5,y.is.t)/\(W,wr.heap.size,6,y.is.l))
     have MR:=ag fun(W:World) (hT:aA (fun b=>(ah bs x.buf bc).ownBlock=some b) W8 W)=>(by
      have hne:(ah bs x.buf bc).ownBlock≠some nb:=fun h=>(by rw [<-vR]at h;exact(NC.off j r 3 nb mo h).2 rfl);exact fun o=>(hT.frozen hnl hne o).trans (zP o):∀o,W.frozen? ⟨nb,o,none⟩=false)
     have Bh:=ag fun(W:World) (v':Value) (hT:aA (fun b=>(ah bs x.buf bc).ownBlock=some b) W8 W) (hv:ay M W v' b) (hv':∀b,v'.ownBlock=some b->(ah bs x.buf bc).ownBlock=some b\/W8.heap.size<=b)=>(by
      obtain⟨q1,q2⟩:=NC.field (f:=3) rfl mo wm ai (w1:=W) (v':=v') (x':={ x with buf:=b }) (by show aA (fun b=>r.bv.ownBlock=some b) W8 W;rw [vR];exact hT) hv.row (by show ∀b,v'.ownBlock=some b->r.bv.ownBlock=some b\/_;rw [vR];exact hv') rfl (fun g hg=>by
       rcases mA g 4 with h4|h4
       ·rcases xg h4 with rfl|rfl|rfl|rfl <;> first|exact⟨rfl,rfl⟩|exact absurd rfl hg
       ·obtain⟨k,rfl⟩:∃k,g=k+4:=⟨g-4,ai⟩;exact⟨rfl,rfl⟩) rfl
      obtain⟨q3,q4⟩:=Hz yr q2 hoF;exact⟨_,_,t1,ht1▸q1,hS8.trans q2,q3,q4,adq⟩:∃nz rs' tk,Bd M (W.setCell (nb,j*5+4) v') bb nz rs' tk/\qB (dY bb nv rs) (dY bb nz rs') w (W.setCell (nb,j*5+4) v')/\ay M (W.setCell (nb,j*5+4) v') (ah (some (eb,cM)) all dc) all/\(∀b,(ah (some (eb,cM)) all dc).ownBlock=some b->¬dY bb nz rs' b)/\((all.drop (k+1)).filter fun d=>decide (key<d.key)).foldlM (rQ (j:Int)) tk=some t')
     clear NC hS8 yr hoF hx hrow hent hins ht1 mo wm hown vR c0 c4 zP Kr hm hr hf;go_wp2_with fail;refine bN [(0,1),(1,1),(2,1),(3,1),(4,0),(5,1),(6,1),(7,1),(8,1),(9,1),(10,0),(11,1),(12,1),(13,1),(14,0),(15,0),(16,2),(17,1),(18,1),(19,1),(20,1),(21,1),(22,3)] 22
      (fun W=>W.cell? (bb,0)=some (ah nb rs' cap)/\W.cell? (nb,j*5+4)=some (ah bs x.buf bc)/\(W,wr.heap.size,0,y.key)/\(W,wr.heap.size,1,y.is.c)/\(W,wr.heap.size,2,y.is.s)/\(W,wr.heap.size,3,y.is.mi)/\(W,wr.heap.size,4,y.is.ma)/\(W,wr.heap.size,5,y.is.t)/\(W,wr.heap.size,6,y.is.l)) cV cV (jO _ (aA.drew (aA.refl _ _))) ?_
     (simp only [bV,List.filterMap_cons,List.filterMap_nil,List.getElem?_cons_zero,List.getElem?_cons_succ,Option.map_some])
     (repeat first|refine bg ?_|refine aZ ?_)
     refine aP rfl (fun K hK=>?_);go_simp
     (with_reducible refine HM.out.mono ?_);rintro e w5 ⟨ud,v5,rfl,fY,hv5⟩
     have U8:aA (fun b=>(ah bs x.buf bc).ownBlock=some b) W8 w5:=(aA.drew (aA.refl _ _)).trans ud;go_simp;refine hK _ _ (jO _ U8) ?_;clear hK K;have HV:=ag (Bh w5 v5 U8 fY hv5);have hfz:=MR _ U8 (j*5+4);obtain⟨-,hc4,-⟩:=jO _ U8;obtain⟨s5,c5,rfl⟩:=fY.isSlice;clear ud fY hv5
     (repeat first|refine bg ?_|refine aZ ?_)
     refine bq rfl (fun K hK=>?_);go_simp;refine hK _ _ ?_;clear hK K;refine cC ?_;go_wp2;go_roundg (all-(k+1))
     case measure=>omega
     case rel=>exact⟨k+1,ai,rfl,by go_num,HV⟩
   ·rw [uR (by simpa using i1)]at hf;have HV:=ag (by exact⟨_,_,tk,gV.1,gV.2.1,gV.2.2.1,gV.2.2.2,hf⟩:∃nz rs' tk,Bd M W8 bb nz rs' tk/\qB (dY bb nv rs) (dY bb nz rs') w W8/\ay M W8 (ah (some (eb,cM)) all dc) all/\(∀b,(ah (some (eb,cM)) all dc).ownBlock=some b->¬dY bb nz rs' b)/\((all.drop (k+1)).filter fun d=>decide (key<d.key)).foldlM (rQ n) tk=some t');have i1':y.key<=key:=ai;clear hf i1;go_wp2;go_roundg (all-(k+1))
    case measure=>omega
    case rel=>exact⟨k+1,ai,rfl,by go_num,HV⟩
  ·rw [zX ai]at hf;obtain rfl:=dh hf;have HV:=ag (show mZ M bb (dY bb nv rs) w tk wr from ⟨_,_,hB,hS⟩);clear hB hS ho hoF HR hf;go_wp2
   go_end0
   exact⟨rfl,HV⟩
end
section
variable {es:List aH} {M g c i:Nat} {x:Nd} {r:Raw} {w:World}
theorem H4 (h:ay M w (ah g es c) es) (hl:es.length<=1000) (hi:i<=es) (o:Nat) (ho:i<es->o=i*7) :
  cX w (ah (some (g,o)) (es-i) (c-i)) (es.drop i):=by
 obtain⟨ao,cap,hv,h1,h2,h3,h4,h5⟩:=h.at ai;injection hv with hv1 _ hv3;subst hv3;refine⟨_,_,by rw [qG],by rw [qG];omega,ai,by rw [qG];omega,bh,fun h0=>?_⟩;rw [qG]at h0;obtain rfl:=ho ai;obtain⟨b,off,hb,hlt,hc⟩:=h5 ai;rw [<-hv1]at hb;injection hb with hb;injection hb with e1 e2;subst e1 e2;refine⟨g,i*7,rfl,hlt,fun k x hk j u hu=>?_⟩;rw [List.getElem?_drop]at hk;have:=hc (i+k) x hk j u hu;rw [<-this];congr 2;omega
theorem Hy (h:ay M w (ah g es c) es) (hl:es.length<=1000) (hi:i<=es) :
  cX w (ah g i c) (es.take i):=by
 obtain⟨ao,cap,hv,h1,h2,h3,h4,h5⟩:=h.at ai;injection hv with hv1 _ hv3;subst hv3;refine⟨_,_,by rw [gh,Nat.min_eq_left hi],by rw [gh,Nat.min_eq_left hi];omega,ai,by rw [gh,Nat.min_eq_left hi];omega,bh,fun h0=>?_⟩;rw [gh,Nat.min_eq_left hi]at h0;obtain⟨b,off,hb,hlt,hc⟩:=h5 ai;rw [<-hv1]at hb;injection hb with hb;injection hb with e1 e2;subst e1 e2;refine⟨g,0,rfl,hlt,fun k x hk j u hu=>hc k x ?_ j u hu⟩;rw [rF]at hk
 split at hk
 ·exact hk
 ·cases hk
theorem vJ {es:List Int} (h:bU M w (ah g es c) es) (hl:es.length<=1000) (hi:i<=es) (o:Nat) (ho:i<es->o=i) :
  gM w (ah (some (g,o)) (es-i) (c-i)) (es.drop i):=by
 obtain⟨ao,cap,hv,h1,h2,h3,h4,h5⟩:=h.at ai;injection hv with hv1 _ hv3;subst hv3;refine⟨_,_,by rw [qG],by rw [qG];omega,ai,by rw [qG];omega,bh,fun h0=>?_⟩;rw [qG]at h0;obtain rfl:=ho ai;obtain⟨b,off,hb,hlt,hc⟩:=h5 ai;rw [<-hv1]at hb;injection hb with hb;injection hb with e1 e2;subst e1 e2;refine⟨g,o,rfl,hlt,fun k x hk j u hu=>?_⟩;rw [List.getElem?_drop]at hk;have:=hc (o+k) x hk j u hu;rw [<-this];congr 2;omega
theorem vI {es:List Int} (h:bU M w (ah g es c) es) (hl:es.length<=1000) (hi:i<=es) :
  gM w (ah g i c) (es.take i):=by
 obtain⟨ao,cap,hv,h1,h2,h3,h4,h5⟩:=h.at ai;injection hv with hv1 _ hv3;subst hv3;refine⟨_,_,by rw [gh,Nat.min_eq_left hi],by rw [gh,Nat.min_eq_left hi];omega,ai,by rw [gh,Nat.min_eq_left hi];omega,bh,fun h0=>?_⟩;rw [gh,Nat.min_eq_left hi]at h0;obtain⟨b,off,hb,hlt,hc⟩:=h5 ai;rw [<-hv1]at hb;injection hb with hb;injection hb with e1 e2;subst e1 e2;refine⟨g,0,rfl,hlt,fun k x hk j u hu=>hc k x ?_ j u hu⟩;rw [rF]at hk
 split at hk
 ·exact hk
 ·cases hk
theorem gQ.keys (h:gQ M w r x):bU M w r.kv x.keys:=⟨h.row 1⟩
theorem gQ.kids (h:gQ M w r x):bU M w r.dv x.kids:=⟨h.row 2⟩
theorem BV {bb:Nat} {nv:Value} {rs:List Raw} {t:Tr} {n:Int} (h:Bd M w bb nv rs t) (hx:t.dm n=some x) (hs:(x.leaf=true/\x.aI.length<=6)\/(x.leaf=false/\x.kids.length<=4)) :
  Calls Tryz.prog 119 #[.pointer (some (bb,0)),af n] w fun e w'=>e = .returned (.tuple #[af (-1),af 0])/\mZ M bb (dY bb nv rs) w t w':=by
 obtain⟨j,nb,cap,r,rfl,rfl,mo,wm,hjl,hown⟩:=h.place hx;obtain⟨c0,k0,k1,k2,k3,k4,zP,Kr,hbl,hnl,xj⟩:=h.cells mo;have HB:=ag fun w' (hb:aq w w')=>(⟨_,_,h.below hb aO,qB.of hb aO⟩:mZ M bb (dY bb (ah nb rs cap) rs) w t w');obtain⟨es,ec,hev⟩:=hown.aI.isSlice;obtain⟨ks,kc,yx⟩:=hown.keys.isSlice;obtain⟨ds,dc,Bb⟩:=hown.kids.isSlice;obtain⟨bs,bc,vR⟩:=hown.buf.isSlice;rw [hown.leaf]at k0;rw [hev]at k1;rw [yx]at k2;rw [Bb]at k3;rw [vR]at k4;have jh:=fun w'=>dU (ab:=nb) (aR:=0) (n:=rs.length) (cap:=cap) (show (j:Int)=((j:Nat):Int) by rfl) hjl w';simp only [iR]at jh;rcases hs with ⟨hl,hs⟩|⟨hl,hs⟩
 ·rw [hl]at k0;have hs':(x.aI.length:Int)<=6:=ai;clear h hx mo wm hown hev yx Bb vR zP Kr hl hs;go_enter Tryz.func119,Tryz.ntmps119;go_wp2
  go_ret2
  exact⟨rfl,HB _ aj⟩
 ·rw [hl]at k0;have hs':(x.kids.length:Int)<=4:=ai;clear h hx mo wm hown hev yx Bb vR zP Kr hl hs;go_enter Tryz.func119,Tryz.ntmps119;go_wp2
  go_ret2
  exact⟨rfl,HB _ aj⟩
end
theorem qj:∃i0 z,Tryz.prog.info? 125=some i0/\i0.zero=some z/\i0.size=5/\i0.bytes=104/\z.cells.size=5:=by
 obtain⟨i0,z,hi,hz,hz1,hz2,hz3⟩:=cG Tryz.Nu;exact⟨i0,z,hi,hz,hz1,hz2,hz3⟩
theorem qR (M:Nat) (w:World) (e:TypeId) (k:Nat):w.ownsRow M e k (az 0 0) 0 []:=oV _ _ _ _
theorem KH {M:Nat} {w:World} {bb:Nat} {nv:Value} {rs:List Raw} {t:Tr} {n:Int} {x:Nd} (h:Bd M w bb nv rs t) (hx:t.dm n=some x) (hl:x.leaf=true) (h7:x.aI.length=7) (hm:t.nodes.length<=1000000000000) :
  Calls Tryz.prog 119 #[.pointer (some (bb,0)),af n] w fun e w'=>e = .returned (.tuple #[af t.nodes,af (x.aI.getD 3 default).key]) /\
   mZ M bb (dY bb nv rs) w (dz (kN t ⟨true,x.aI.drop 3,[],[],[]⟩) n { x with aI:=x.aI.take 3 }) w':=by
 obtain⟨j,nb,cap,r,rfl,rfl,mo,wm,hjl,hown⟩:=h.place hx;obtain⟨c0,k0,k1,k2,k3,k4,zP,Kr,hbl,hnl,xj⟩:=h.cells mo;obtain⟨es,ec,hev⟩:=hown.aI.isSlice;obtain⟨ks,kc,yx⟩:=hown.keys.isSlice;obtain⟨ds,dc,Bb⟩:=hown.kids.isSlice;obtain⟨bs,bc,vR⟩:=hown.buf.isSlice;have ho0:=hown.aI;rw [hev]at ho0;obtain⟨eb,ec',hes,-,-⟩:=World.ownsRow.form ho0.row ai;injection hes with agU _ Ph;subst agU Ph;have jF:7<=ec:=by obtain⟨_,_,hv,h1,_⟩:=ho0.at ai;injection hv with _ _ hv3;omega
 have heo:=h.off j r 0 eb mo (by show r.ev.ownBlock=_;rw [hev];rfl);have LM:eb≠bb:=heo.1;have Yf:eb≠nb:=fun e=>heo.2 (by rw [e];rfl);have agW:eb<w:=(ho0.lt eb rfl).2;have hM:M<=w:=by have:=(h.lt bb (.inl rfl)).1;omega
 rw [hown.leaf,hl]at k0;rw [hev,h7]at k1;rw [yx]at k2;rw [Bb]at k3;rw [vR]at k4;have jh:=fun w'=>dU (ab:=nb) (aR:=0) (n:=rs.length) (cap:=cap) (show (j:Int)=((j:Nat):Int) by rfl) hjl w';simp only [iR]at jh;obtain⟨y,hy⟩:∃y,x.aI[3]?=some y:=⟨x.aI[3],by simp [h7]⟩;have Nv:(x.aI.getD 3 default)=y:=by rw [List.getD_eq_getElem?_getD,hy];rfl
 have Rq:w.cell? (eb,21)=some (af y.key):=by
  obtain⟨ao,c,hv,h1,h2,h3,h4,h5⟩:=ho0.at ai;injection hv with hv1 _ hv3;obtain⟨b,off,hb,hlt,hc⟩:=h5 ai;rw [<-hv1]at hb;injection hb with hb;injection hb with e1 e2;subst e1 e2;have:=hc 3 y hy 0 (af y.key) rfl;simpa using this
 rw [Nv];obtain⟨W1,hW1⟩:=cd (w.alloc (.cells #[.bool true,ah eb 7 ec,ah ks x.keys kc,ah ds x.kids dc,ah bs x.buf bc] 125));have hb1:aq w W1:=by rw [hW1];exact aj
 have hz1:W1=w.heap.size+1:=by rw [hW1];simp
 have kx:W1.heap[w.heap.size]?=some (.cells #[.bool true,ah eb 7 ec,ah ks x.keys kc,ah ds x.kids dc,ah bs x.buf bc] 125):=by rw [hW1];exact au _ _ rfl
 have DN:=h.below hb1 aO;have hS1:qB (dY bb (ah nb rs cap) rs) (dY bb (ah nb rs cap) rs) w W1:=qB.of hb1 aO;have tW:=ho0.below hb1 aO
 -- what no step of this function turns
 have HX:=ag fun(W:World) (hT:aA (fun b=>b=bb\/b=nb) W1 W)=>(by
  have e1:W.heap[w.heap.size]?=_:=(hT.block _ ai (by rintro(e|e) <;> omega)).trans kx
  have e2:W.heap[eb]?=w.heap[eb]?:=(hT.block eb ai (by rintro(e|e) <;> contradiction)).trans (hb1.block eb agW)
  exact⟨by simp [World.cell?,e1],by simp [World.cell?,e1],by rw [oH (a:=⟨eb,21,none⟩) e2];exact Rq,ho0.block fun g hg=>by injection hg with hg;subst hg;exact e2⟩ :
  W.cell? (w,0)=some (.bool true)/\W.cell? (w,1)=some (ah eb 7 ec)/\(W,eb,21,y.key)/\ay M W (ah eb x.aI ec) x.aI)
 have HC:=ag fun(W:World) (hT:aA (fun b=>b=bb\/b=nb) W1 W)=>(by
  have o:=(HX W hT).2.2.2;have h1:=H4 (i:=3) o ai ai 21 (fun _=>rfl);have h2:=Hy (i:=3) o ai ai;rw [h7]at h1;have c1:=fT h1;have c2:=fT h2;exact⟨c1,c2⟩:Calls Tryz.prog 89 #[ah (some (eb,21)) (7-3) (ec-3)] W (fun e w'=>∃v',e = .returned v'/\w'.ownsRow W 107 7 v' (x.aI.drop 3).length ((x.aI.drop 3).flatMap bu)/\aq W w') /\
   Calls Tryz.prog 89 #[ah eb 3 ec] W (fun e w'=>∃v',e = .returned v'/\w'.ownsRow W 107 7 v' (x.aI.take 3).length ((x.aI.take 3).flatMap bu)/\aq W w'))
 obtain⟨DR,hDR⟩:=bG (x.aI.drop 3);obtain⟨TK,hTK⟩:=bG (x.aI.take 3);rw [hDR,hTK]at HC ⊢;clear hDR hTK;obtain⟨i0,z0,hi0,hz0,CI,CH,CG⟩:=qj;have hlen:rs=t.nodes.length:=h.len;have hrl:rs.length<=1000000000000:=ai;have gV:=ag (aJ DN (aJ hS1 (aJ mo (aJ wm hev))));have hg2:¬(ec=3):=ai;have hg3:(3:Int)<=(ec:Int):=ai;have Jb:bb<W1:=ai;have abP:nb<W1:=ai;have c0':W1.cell? (bb,0)=some (ah nb rs cap):=(hb1.cell (p:=(bb,0)) hbl).trans c0;obtain⟨q0,q1,-⟩:=HX W1 (aA.refl _ _);have HYK:=ag hy;clear h hx hown hev yx Bb vR hl hlen ho0 tW DN hS1 heo mo wm Nv hy Rq;go_enter Tryz.func119,Tryz.ntmps119;go_upto_region 3 with (fail);rw [<-hW1];clear hW1 k0 k1 k2 k3 k4 zP c0 kx;have jO:=ag fun(W:World) (hT:aA (fun b=>b=nb) W1 W)=>(⟨(hT.cell Jb xj 0).trans c0',(HX W (hT.mono fun _ _ h=> .inr h)).2.1⟩:W.cell? (bb,0)=some (ah nb rs cap)/\W.cell? (w,1)=some (ah eb 7 ec));have T0:aA (fun b=>b=nb) W1 W1.drew:=(aA.refl _ _).drew;clear c0' q0 q1;have q1:=(jO W1 (aA.refl _ _)).2;go_wp2_with fail;clear q1;refine bN [(0,1),(1,1),(2,1),(3,1),(4,1),(5,0),(6,1),(7,0),(8,1),(9,1),(10,2),(11,1),(12,2),(13,2),(14,1),(15,1),(16,1),(17,3)] 17 (fun W=>W.cell? (bb,0)=some (ah nb rs cap)/\W.cell? (w,1)=some (ah eb 7 ec)) cV cV (jO _ T0) ?_
 (simp only [bV,List.filterMap_cons,List.filterMap_nil,List.getElem?_cons_zero,List.getElem?_cons_succ,Option.map_some])
 (repeat first|refine bg ?_|refine aZ ?_)
 refine aP rfl (fun K hK=>?_);go_simp
 (with_reducible refine(HC.out _ (T0.mono fun _ _ h=> .inr h)).1.mono ?_);rintro e w5 ⟨v5,rfl,fY,cy⟩
 obtain⟨s5,c5,rfl⟩:=(ay.mk fY).isSlice;have T5:aA (fun b=>b=nb) W1 w5:=T0.trans (aA.of cy aO);go_simp;refine hK _ _ (jO _ T5) ?_;clear hK K
 (repeat first|refine bg ?_|refine aZ ?_)
 refine aP rfl (fun K hK=>?_);go_simp;obtain⟨W6,rL⟩:=cd (w5.alloc (.cells #[.bool true,(ah s5 DR c5),az 0 0,az 0 0,az 0 0] 125));have ji:aq w5 W6:=by rw [rL];exact aj
 have k6:W6.heap[w5.heap.size]?=some (.cells #[.bool true,(ah s5 DR c5),az 0 0,az 0 0,az 0 0] 125):=by rw [rL];exact au _ _ rfl
 have DK:W6=w5.heap.size+1:=by rw [rL];simp
 rw [<-rL];have T6:aA (fun b=>b=nb) W1 W6:=T5.trans (aA.of ji aO);refine hK _ _ (jO _ T6) ?_;clear hK K rL;have vQ:W1<=w5.heap.size:=T5.size;have hB6:aq W1 W6:=aF (show aq W1 w5 from ⟨cy.os,cy.tape,cy.output,cy.size,cy.block⟩) ji vQ;have Av:=(gV.1.below hB6 aO).row;refine aP rfl (fun K hK=>?_);refine wp_append_lies _ (.tmp 38) (.tmp 45) 25 rfl M 125 i0 z0 5 104 Tryz.underlying25 hi0 hz0 CI CH CG bY _ rs.length _ rfl Av ⟨w5.heap.size,0,none⟩ 1 1 (bS ⟨true,(.slice s5 DR.length c5), .slice none 0 0, .slice none 0 0, .slice none 0 0⟩) rfl rfl (World.news_of_block k6) ?hone bY (by unfold maxLen;omega) ai ai W6.heap.size rfl ?_
 case hone=>
  intro u hu;simp [bS]at hu;rcases hu with rfl|rfl|rfl <;> rfl
 intro g cap' w7 Au yC WJ RI;have T7:aA (fun b=>b=nb) W1 w7:=aA.grown T6 yC (fun k hk=> .inl (by injection hk with hk;exact hk.symm));refine hK _ _ (jO _ T7) ?_;clear hK K;have zI:g=nb\/g=W6:=WJ.imp (fun h=>(dh h).symm) id;have E0:=yC.size;have ki:=ag (gV.1.push (w1:=w7) (nz:=ah g (rs+1) cap') (r:=⟨true,(ah s5 DR c5),az 0 0,az 0 0,az 0 0⟩) (x:=⟨true,DR,[],[],[]⟩) (T7.mono fun b _ h=>by rw [h];rfl) Au (fun b hb=>by
   have hb:g=b:=dh hb;subst hb;rcases zI with e|e
   ·left;rw [e];rfl
   ·right;rw [e];omega) (by
   have hv5:∀b,(ah s5 DR c5).ownBlock=some b->W1.heap.size<=b/\b<w5.heap.size:=fun b hb=>fY.lt b hb;refine⟨gQ.of rfl (bJ (cF fY (by show M<=W1;omega)) fun b hb=>?_) (qR _ _ _ _) (qR _ _ _ _) (qR _ _ _ _),fun f b hb=>?_,fun f g b hb hb'=>?_⟩
   ·have:=hv5 b hb;exact(yC.block b ai (fun e=>by have e:b=nb:=dh e;omega)).trans (ji.block b ai)
   ·rcases mA f 4 with h4|h4
    ·rcases xg h4 with rfl|rfl|rfl|rfl
     ·have:=hv5 b hb;omega
     ·cases hb
     ·cases hb
     ·cases hb
    ·rw [Raw.iH _ h4]at hb;cases hb
   ·have z:∀f b,(Raw.iQ ⟨true,(ah s5 DR c5),az 0 0,az 0 0,az 0 0⟩ f).ownBlock=some b->f=0:=fun f b hb=>by
     rcases mA f 4 with h4|h4
     ·rcases xg h4 with rfl|rfl|rfl|rfl <;> first|rfl|cases hb
     ·rw [Raw.iH _ h4]at hb;cases hb
    rw [z f b hb,z g b hb']) (fun f b hb e=>by
   have e:g=b:=dh e;rcases mA f 4 with h4|h4
   ·rcases xg h4 with rfl|rfl|rfl|rfl
    ·have:=fY.lt b hb;have:W1<=b:=this.1;omega
    ·cases hb
    ·cases hb
    ·cases hb
   ·rw [Raw.iH _ h4]at hb;cases hb))
 obtain⟨d0,-⟩:=jO _ T7;have d1:w7.frozen? ⟨bb,0,none⟩=false:=(T7.frozen Jb xj 0).trans ((hb1.frozen (p:=(bb,0)) hbl).trans (Kr 0))
 (repeat first|refine bg ?_|refine aZ ?_)
 refine bq rfl (fun K hK=>?_);go_simp;refine hK _ _ ?_;clear hK K;refine cC ?_;have T8:aA (fun b=>b=bb\/b=nb) W1 (w7.setCell (bb,0) (ah g (rs+1) cap')):=(T7.mono fun _ _ h=> .inr h).setCell (.inl (.inl rfl)) _;generalize w7.setCell (bb,0) (ah g (rs+1) cap')=W8 at ki T8 ⊢;clear jO T0 T5 T6 T7 cy fY ji hB6 Av k6 Au yC WJ RI d0 d1;have I0:(rs++[(⟨true,(ah s5 DR c5),az 0 0,az 0 0,az 0 0⟩:Raw)])[j]?=some r:=by rw [rE hjl];exact gV.2.2.1
 have afT:(kN t ⟨true,DR,[],[],[]⟩).nodes[j]?=some x:=by
  have:=gV.2.2.2.1;exact(rE (dW.1 this).1).trans this
 have TA:(rs++[(⟨true,(ah s5 DR c5),az 0 0,az 0 0,az 0 0⟩:Raw)]).length=rs.length+1:=bh;have hcells:=ki.1;rw [<-TA]at hcells;obtain⟨e0,-,e1,-,-,-,WW,-,e2,e3,e4⟩:=hcells.cells I0;rw [TA]at e0;have RP:=fun w'=>dU (ab:=g) (aR:=0) (n:=rs.length+1) (cap:=cap') (show (j:Int)=((j:Nat):Int) by rfl) ai w';simp only [iR]at RP;have jO:=ag fun(W:World) (hT:aq W8 W)=>(⟨(hT.cell (p:=(bb,0)) e2).trans e0,(HX W (T8.trans (aA.of hT aO))).2.1⟩:W.cell? (bb,0)=some (ah g (rs+1) cap')/\W.cell? (w,1)=some (ah eb 7 ec));have T0:aq W8 W8.drew:=(aW _ _).drew;have HE1:=ag e1;have Tk:=ag WW;have HHC:=ag hcells;clear hcells e0 e1 WW jh;go_wp2_with fail;refine bN [(0,1),(1,1),(2,1),(3,1),(4,0),(5,1),(6,1),(7,0),(8,1),(9,1),(10,2),(11,1),(12,1),(13,3)] 13 (fun W=>W.cell? (bb,0)=some (ah g (rs+1) cap')/\W.cell? (w,1)=some (ah eb 7 ec)) cV cV (jO _ T0) ?_
 (simp only [bV,List.filterMap_cons,List.filterMap_nil,List.getElem?_cons_zero,List.getElem?_cons_succ,Option.map_some])
 (repeat first|refine bg ?_|refine aZ ?_)
 refine aP rfl (fun K hK=>?_);go_simp
 (with_reducible refine(HC.out _ (T8.trans (aA.of T0 aO))).2.mono ?_);rintro e w9 ⟨v9,rfl,RD,kS⟩
 obtain⟨s9,c9',rfl⟩:=(ay.mk RD).isSlice;have B9:aq W8 w9:=aF T0 kS aO;go_simp;refine hK _ _ (jO _ B9) ?_;clear hK K;have d3:w9.cell? (g,j*5+1)=some r.ev:=(B9.cell (p:=⟨g,_,none⟩) e3).trans HE1;have d4:w9.frozen? ⟨g,j*5+1,none⟩=false:=(B9.frozen (p:=⟨g,_,none⟩) e3).trans (Tk _);have IV:=T8.size;have ZX:=ag (HHC.field (f:=0) (n:=j) (w1:=w9) (v':=ah s9 TK c9') (x':={ x with aI:=TK }) rfl I0 afT ai (aA.of B9 aO) (cF RD (by show M<=W8;omega)) (fun b hb=> .inr (RD.lt b hb).1) rfl (fun g hg=>by
  rcases mA g 4 with h4|h4
  ·rcases xg h4 with rfl|rfl|rfl|rfl <;> first|exact⟨rfl,rfl⟩|exact absurd rfl hg
  ·obtain⟨k,rfl⟩:∃k,g=k+4:=⟨g-4,ai⟩;exact⟨rfl,rfl⟩) (o:=j*5+1) rfl)
 (repeat first|refine bg ?_|refine aZ ?_)
 refine bq rfl (fun K hK=>?_);go_simp;refine hK _ _ ?_;clear hK K;refine cC ?_;have hgE:eb≠g:=by
  rcases zI with e|e
  ·rw [e];exact Yf
  ·omega
 have hgX:w≠g:=by
  rcases zI with e|e
  ·rw [e];omega
  ·omega
 have c9:=jO _ B9;have x9:=HX _ (T8.trans (aA.of B9 aO));have f0:(w9.setCell ⟨g,j*5+1,none⟩ (.slice s9 TK.length c9')).cell? ⟨bb,0,none⟩=some (.slice (some ⟨g,0,none⟩) (rs.length+1) cap'):=by rw [oH (a:=⟨bb,0,none⟩) (cH w9 ⟨g,_,none⟩ bb (.slice s9 TK.length c9') e4)];exact c9.1
 have f1:(w9.setCell ⟨g,j*5+1,none⟩ (.slice s9 TK.length c9')).cell? ⟨w.heap.size,1,none⟩=some (.slice (some ⟨eb,0,none⟩) 7 ec):=by rw [oH (a:=⟨w.heap.size,1,none⟩) (cH w9 ⟨g,_,none⟩ _ (.slice s9 TK.length c9') hgX)];exact c9.2
 have f2:(w9.setCell ⟨g,j*5+1,none⟩ (.slice s9 TK.length c9')).cell? ⟨eb,21,none⟩=some (.int .i64 y.key):=by rw [oH (a:=⟨eb,21,none⟩) (cH w9 ⟨g,_,none⟩ _ (.slice s9 TK.length c9') hgE)];exact x9.2.2.1
 generalize w9.setCell (g,j*5+1) (ah s9 TK c9')=WA at ZX f0 f1 f2 ⊢;clear jO d3 d4 c9 x9 RD kS B9 T0 T8 HC HX;have hw0:IntKind.i64.wrap ((rs.length:Int)+1-1)=(rs.length:Int)+1-1:=bI _ ai;have hw1:IntKind.i64.wrap ((rs.length:Int)+1-1)=(rs.length:Int):=by rw [hw0];omega
 clear hw0;have hlen:rs=t.nodes.length:=gV.1.len;go_wp2_with fail;go_quiet (fail);go_wp2
 go_ret2
 have Qe:aq WA WA:=aW _ _;exact⟨rfl,_,_,ZX.1.below (show aq WA _ from aj) aO,((gV.2.1.trans ki.2).trans ZX.2).trans (qB.of (show aq WA _ from aj) aO)⟩
section
variable {M:Nat} {x:Nd} {w:World}
theorem Ga {H:Nat} {lf:Bool} {v1 v2 v3:Value} {a b c:Nat} (hl:x.leaf=lf) (he:x.aI=[]) (h1:w.ownsRow M 3 1 v1 x.keys (x.keys.flatMap bP)) (h2:w.ownsRow M 3 1 v2 x.kids (x.kids.flatMap bP))
  (h3:w.ownsRow M 107 7 v3 x.buf (x.buf.flatMap bu)) (k1:∀g,v1.ownBlock=some g->H<=g/\g<a) (k2:∀g,v2.ownBlock=some g->a<=g/\g<b) (k3:∀g,v3.ownBlock=some g->b<=g/\g<c) (hab:H<=a) (hbc:a<=b) (hc:b<=c) (hcw:c<=w) :
  Kg M H w ⟨lf,az 0 0,v1,v2,v3⟩ x/\∀f g,(Raw.iQ ⟨lf,az 0 0,v1,v2,v3⟩ f).ownBlock=some g->H<=g/\g<c:=by
 have src:∀f g,(Raw.iQ ⟨lf,az 0 0,v1,v2,v3⟩ f).ownBlock=some g->(f=1/\H<=g/\g<a)\/(f=2/\a<=g/\g<b)\/(f=3/\b<=g/\g<c):=fun f g hg=>by
  rcases mA f 4 with h4|h4
  ·rcases xg h4 with rfl|rfl|rfl|rfl
   ·cases hg
   ·exact .inl ⟨rfl,k1 g hg⟩
   ·exact .inr (.inl ⟨rfl,k2 g hg⟩)
   ·exact .inr (.inr ⟨rfl,k3 g hg⟩)
  ·rw [Raw.iH _ h4]at hg;cases hg
 refine⟨⟨gQ.of hl.symm (by rw [he];exact qR _ _ _ _) h1 h2 h3,fun f g hg=>?_,fun f f' g hg hg'=>?_⟩,fun f g hg=>?_⟩
 ·rcases src f g hg with h|h|h <;> omega
 ·rcases src f g hg with h|h|h <;> rcases src f' g hg' with h'|h'|h' <;> omega
 ·rcases src f g hg with h|h|h <;> omega
theorem tO {bb nb cap j:Nat} {rs:List Raw} {t:Tr} {r:Raw} {gb bl bc o:Nat} (h:Bd M w bb (ah nb rs cap) rs t) (mo:rs[j]?=some r) (wm:t.nodes[j]?=some x) (hjl:j<rs) (hown:gQ M w r x) (vR:r.bv=ah gb bl bc)
  (hl:x.leaf=false) (h5:x.kids.length=5) (h4:x.keys.length=4) (hrow:yZ x.buf) (hkr:0<=x.keys.getD 1 0/\x.keys.getD 1 0<=1099511627776) (hm:t.nodes.length<=1000000000000) (Ei:x.buf.length=bl) (fh:(if bc=jr x.buf (x.keys.getD 1 0)then some (⟨gb,0,none⟩:Addr)else some ⟨gb,jr x.buf (x.keys.getD 1 0)*7,none⟩)=some ⟨gb,o,none⟩) :
  Calls Tryz.prog 119 #[.pointer (some (bb,0)),af (j:Int)] w fun e w'=>e = .returned (.tuple #[af t.nodes,af (x.keys.getD 1 0)]) /\
   mZ M bb (dY bb (ah nb rs cap) rs) w (dz (kN t ⟨false,[],x.keys.drop 2,x.kids.drop 2,x.buf.drop (jr x.buf (x.keys.getD 1 0))⟩) j ⟨false,[],x.keys.take 1,x.kids.take 2,x.buf.take (jr x.buf (x.keys.getD 1 0))⟩) w':=by
 obtain⟨c0,k0,k1,k2,k3,k4,zP,Kr,hbl,hnl,xj⟩:=h.cells mo;obtain⟨es,ec,hev⟩:=hown.aI.isSlice;obtain⟨ks,kc,yx⟩:=hown.keys.isSlice;obtain⟨ds,dc,Bb⟩:=hown.kids.isSlice;have hok:=hown.keys;have wI:=hown.kids;have ni:=hown.buf;rw [yx]at hok;rw [Bb]at wI;rw [vR]at ni;obtain⟨kb,XS,hks,-,-⟩:=World.ownsRow.form hok.row ai;injection hks with Yn _ Ym;subst Yn Ym;obtain⟨db,TP,hds,-,-⟩:=World.ownsRow.form wI.row ai;injection hds with YD _ YC;subst YD YC;have hkc:4<=kc:=by obtain⟨_,_,hv,h1,_⟩:=hok.at ai;injection hv with _ _ hv3;omega
 have hdc:5<=dc:=by obtain⟨_,_,hv,h1,_⟩:=wI.at ai;injection hv with _ _ hv3;omega
 have hko:=h.off j r 1 kb mo (by show r.kv.ownBlock=_;rw [yx];rfl);have YE:=h.off j r 2 db mo (by show r.dv.ownBlock=_;rw [Bb];rfl);have Ko:∀g,(ah gb bl bc).ownBlock=some g->g≠bb/\g≠nb:=fun g hg=>by
  have:=h.off j r 3 g mo (by show r.bv.ownBlock=_;rw [vR];exact hg);exact⟨this.1,fun e=>this.2 (by rw [e];rfl)⟩
 have hk2:kb≠nb:=fun e=>hko.2 (by rw [e];rfl);have hd2:db≠nb:=fun e=>YE.2 (by rw [e];rfl);have hkl:kb<w:=(hok.lt kb rfl).2;have CT:db<w:=(wI.lt db rfl).2;have hM:M<=w:=by have:=(h.lt bb (.inl rfl)).1;omega
 rw [hown.leaf,hl]at k0;rw [hev]at k1;rw [yx,h4]at k2;rw [Bb,h5]at k3;rw [vR]at k4;have jh:=fun w'=>dU (ab:=nb) (aR:=0) (n:=rs.length) (cap:=cap) (show (j:Int)=((j:Nat):Int) by rfl) hjl w';simp only [iR]at jh;obtain⟨key,hy⟩:∃y,x.keys[1]?=some y:=⟨x.keys[1],by simp [h4]⟩;have Nv:x.keys.getD 1 0=key:=by rw [List.getD_eq_getElem?_getD,hy];rfl
 obtain⟨_,_,_,E3,-,XV⟩:=gM.get (hok.at ai) hy;injection E3 with E3 _ Yu;subst Yu;injection E3 with E3;injection E3 with Yw Yv;subst Yw Yv;simp only [iR]at XV;rw [Nv]at hkr ⊢;rw [Nv]at fh;obtain⟨i,hi⟩:=bG (jr x.buf key);have hil:i<=x.buf:=by rw [<-hi];exact(nJ hrow.1).1
 rw [hi]at fh ⊢;obtain⟨W1,hW1⟩:=cd (w.alloc (.cells #[.bool false,ah es x.aI ec,ah kb 4 kc,ah db 5 dc,ah gb bl bc] 125));have hb1:aq w W1:=by rw [hW1];exact aj
 have hz1:W1=w.heap.size+1:=by rw [hW1];simp
 have kx:W1.heap[w.heap.size]?=some (.cells #[.bool false,ah es x.aI ec,ah kb 4 kc,ah db 5 dc,ah gb bl bc] 125):=by rw [hW1];exact au _ _ rfl
 have DN:=h.below hb1 aO;have hS1:qB (dY bb (ah nb rs cap) rs) (dY bb (ah nb rs cap) rs) w W1:=qB.of hb1 aO;have HX:=ag fun(W:World) (hT:aA (fun b=>b=bb\/b=nb) W1 W)=>(by
  have e1:W.heap[w.heap.size]?=_:=(hT.block _ ai (by rintro(e|e) <;> omega)).trans kx
  have e2:W.heap[kb]?=w.heap[kb]?:=(hT.block kb ai (by rintro(e|e);exact hko.1 e;exact hk2 e)).trans (hb1.block kb hkl);have e3:W.heap[db]?=w.heap[db]?:=(hT.block db ai (by rintro(e|e);exact YE.1 e;exact hd2 e)).trans (hb1.block db CT);have e4:∀g,(ah gb bl bc).ownBlock=some g->W.heap[g]?=w.heap[g]?:=fun g hg=>(hT.block g (by have:=(ni.lt g hg).2;omega) (by rintro(e|e);exact(Ko g hg).1 e;exact(Ko g hg).2 e)).trans (hb1.block g (ni.lt g hg).2);refine⟨by simp [World.cell?,e1],by simp [World.cell?,e1],by simp [World.cell?,e1],by simp [World.cell?,e1],by rw [oH (a:=⟨kb,1,none⟩) e2];exact XV,hok.block fun g hg=>?_,wI.block fun g hg=>?_,ni.block e4⟩
  ·injection hg with hg;subst hg;exact e2
  ·injection hg with hg;subst hg;exact e3 :
  W.cell? (w,0)=some (.bool false)/\W.cell? (w,2)=some (ah kb 4 kc)/\W.cell? (w,3)=some (ah db 5 dc)/\W.cell? (w,4)=some (ah gb bl bc)/\(W,kb,1,key) /\
  bU M W (ah kb x.keys kc) x.keys/\bU M W (ah db x.kids dc) x.kids/\ay M W (ah gb bl bc) x.buf)
 have HC:=ag fun(W:World) (hT:aA (fun b=>b=bb\/b=nb) W1 W)=>(by
  obtain⟨-,-,-,-,-,o1,o2,o3⟩:=HX W hT;have a1:=vJ (i:=2) o1 ai ai 2 (fun _=>rfl);have a2:=vI (i:=1) o1 ai ai;have b1:=vJ (i:=2) o2 ai ai 2 (fun _=>rfl);have b2:=vI (i:=2) o2 ai ai;rw [h4]at a1;rw [h5]at b1;have hbc:x.buf<=bc:=by obtain⟨_,_,hv,h1,_⟩:=o3.at (by have:=hrow.2.2.2;omega);injection hv with _ _ hv3;omega
  rw [<-Ei]at o3 ⊢;have c1:=H4 (i:=i) o3 (by have:=hrow.2.2.2;omega) hil o (fun h=>by
   by_cases hb:bc=i
   ·omega
   ·rw [ar hb]at fh;injection fh with fh;injection fh with _ hs2;exact hs2.symm)
  have c2:=Hy (i:=i) o3 (by have:=hrow.2.2.2;omega) hil;exact⟨eQ a1,eQ b1,fT c1,eQ a2,eQ b2,fT c2⟩ :
  Calls Tryz.prog 90 #[ah (some (kb,2)) (4-2) (kc-2)] W (fun e w'=>∃v',e = .returned v'/\w'.ownsRow W 3 1 v' (x.keys.drop 2).length ((x.keys.drop 2).flatMap bP)/\aq W w') /\
  Calls Tryz.prog 90 #[ah (some (db,2)) (5-2) (dc-2)] W (fun e w'=>∃v',e = .returned v'/\w'.ownsRow W 3 1 v' (x.kids.drop 2).length ((x.kids.drop 2).flatMap bP)/\aq W w') /\
  Calls Tryz.prog 89 #[ah (some (gb,o)) (bl-i) (bc-i)] W (fun e w'=>∃v',e = .returned v'/\w'.ownsRow W 107 7 v' (x.buf.drop i).length ((x.buf.drop i).flatMap bu)/\aq W w') /\
  Calls Tryz.prog 90 #[ah kb 1 kc] W (fun e w'=>∃v',e = .returned v'/\w'.ownsRow W 3 1 v' (x.keys.take 1).length ((x.keys.take 1).flatMap bP)/\aq W w') /\
  Calls Tryz.prog 90 #[ah db 2 dc] W (fun e w'=>∃v',e = .returned v'/\w'.ownsRow W 3 1 v' (x.kids.take 2).length ((x.kids.take 2).flatMap bP)/\aq W w') /\
  Calls Tryz.prog 89 #[ah gb i bc] W (fun e w'=>∃v',e = .returned v'/\w'.ownsRow W 107 7 v' (x.buf.take i).length ((x.buf.take i).flatMap bu)/\aq W w'))
 have MU:=ag fun(W:World) (hT:aA (fun b=>b=bb\/b=nb) W1 W)=>(by
  have:=Gn (x:=key) ((HX W hT).2.2.2.2.2.2.2.at (by have:=hrow.2.2.2;omega)) hrow.1 (fun e he=>by have:=hrow.2.2.1 e he;omega);rw [hi]at this;exact this:Calls Tryz.prog 117 #[ah gb bl bc,af key] W fun r w'=>r = .returned (.tuple #[af (i:Int), .bool (uG x.buf key)])/\aq W w')
 obtain⟨hs,LQ⟩:=bG (uG x.buf key);rw [LQ]at MU;clear LQ;obtain⟨KD,YZ⟩:=bG (x.keys.drop 2);obtain⟨KT,YY⟩:=bG (x.keys.take 1);obtain⟨DD,Y1⟩:=bG (x.kids.drop 2);obtain⟨DT,Y0⟩:=bG (x.kids.take 2);obtain⟨BD,Y3⟩:=bG (x.buf.drop i);obtain⟨BT,Y2⟩:=bG (x.buf.take i);rw [YZ,YY,Y1,Y0,Y3,Y2]at HC;rw [YZ,YY,Y1,Y0,Y3,Y2];clear YZ YY Y1 Y0 Y3 Y2;obtain⟨i0,z0,hi0,hz0,CI,CH,CG⟩:=qj;have hlen:rs=t.nodes.length:=h.len;have hrl:rs.length<=1000000000000:=ai;have gV:=ag (aJ DN (aJ hS1 (aJ mo wm)));have hg2:¬(kc=2):=ai;have hg3:(2:Int)<=(kc:Int):=ai;have hg4:(1:Int)<=(kc:Int):=ai;have hg5:¬(dc=2):=ai;have hg6:(2:Int)<=(dc:Int):=ai;have hbc:bl<=bc:=by
  rw [Ei]at hil;have:=hrow.2.2.2;obtain⟨_,_,hv,h1,_⟩:=ni.at ai;injection hv with _ _ hv3;omega
 have amy:bl<=20:=by rw [<-Ei];exact hrow.2.2.2
 rw [Ei]at hil;have xm:(i:Int)<=(bl:Int):=ai;have YP:(i:Int)<=(bc:Int):=ai;have amE:i<=bc:=ai;clear Ei;have Jb:bb<W1:=ai;have abP:nb<W1:=ai;have c0':W1.cell? (bb,0)=some (ah nb rs cap):=(hb1.cell (p:=(bb,0)) hbl).trans c0;obtain⟨q0,q2,q3,q4,qk,-⟩:=HX W1 (aA.refl _ _);clear h hown hev yx Bb vR hl hlen hok wI ni DN hS1 hko YE Ko mo wm Nv hy XV hrow hi hkr;go_enter Tryz.func119,Tryz.ntmps119;go_upto_region 2 with (fail);rw [<-hW1];clear hW1 k0 k1 k2 k3 k4 zP c0 kx;have jO:=ag fun(W:World) (hT:aA (fun b=>b=nb) W1 W)=>(by
  obtain⟨-,g2,g3,g4,-⟩:=HX W (hT.mono fun _ _ h=> .inr h);exact⟨(hT.cell Jb xj 0).trans c0',g2,g3,g4⟩:W.cell? (bb,0)=some (ah nb rs cap)/\W.cell? (w,2)=some (ah kb 4 kc)/\W.cell? (w,3)=some (ah db 5 dc)/\W.cell? (w,4)=some (ah gb bl bc))
 clear c0';go_wp2_with ((go_at_call 117;(with_reducible refine(MU.out _ (aA.refl _ _)).mono ?_);rintro e w2 ⟨rfl,hb2⟩));clear q0 q2 q3 q4 qk;have T2:aA (fun b=>b=nb) W1 w2:=aA.of hb2 aO;have T0:aA (fun b=>b=nb) W1 w2.drew:=T2.drew;refine bN [(0,1),(1,1),(2,1),(3,1),(4,1),(5,0),(6,1),(7,0),(8,1),(9,1),(11,1),(12,0),(13,1),(14,1),(16,1),(17,0),(18,1),(19,1),(10,2),(15,2),(20,2),(21,1),(22,2),(23,2),(24,1),(25,1),(26,1),(27,3)] 27 (fun W=>W.cell? (bb,0)=some (ah nb rs cap)/\W.cell? (w,2)=some (ah kb 4 kc)/\W.cell? (w,3)=some (ah db 5 dc)/\W.cell? (w,4)=some (ah gb bl bc)) cV cV (jO _ T0) ?_
 (simp only [bV,List.filterMap_cons,List.filterMap_nil,List.getElem?_cons_zero,List.getElem?_cons_succ,Option.map_some])
 (repeat first|refine bg ?_|refine aZ ?_)
 refine aP rfl (fun K hK=>?_);go_simp
 (with_reducible refine(HC.out _ (T0.mono fun _ _ h=> .inr h)).1.mono ?_);rintro e w3 ⟨v3,rfl,mC,hb3⟩
 obtain⟨s3,c3,rfl⟩:=(bU.mk mC).isSlice;have T3:aA (fun b=>b=nb) W1 w3:=T0.trans (aA.of hb3 aO);go_simp;refine hK _ _ (jO _ T3) ?_;clear hK K
 (repeat first|refine bg ?_|refine aZ ?_)
 refine aP rfl (fun K hK=>?_);go_simp
 (with_reducible refine(HC.out _ (T3.mono fun _ _ h=> .inr h)).2.1.mono ?_);rintro e w4 ⟨v4,rfl,zk,hb4⟩
 obtain⟨s4,c4,rfl⟩:=(bU.mk zk).isSlice;have T4:aA (fun b=>b=nb) W1 w4:=T3.trans (aA.of hb4 aO);go_simp;refine hK _ _ (jO _ T4) ?_;clear hK K
 (repeat first|refine bg ?_|refine aZ ?_)
 refine aP rfl (fun K hK=>?_);go_simp
 (with_reducible refine(HC.out _ (T4.mono fun _ _ h=> .inr h)).2.2.1.mono ?_);rintro e w5 ⟨v5,rfl,fY,cy⟩
 obtain⟨s5,c5,rfl⟩:=(ay.mk fY).isSlice;have T5:aA (fun b=>b=nb) W1 w5:=T4.trans (aA.of cy aO);go_simp;refine hK _ _ (jO _ T5) ?_;clear hK K
 (repeat first|refine bg ?_|refine aZ ?_)
 refine aP rfl (fun K hK=>?_);go_simp;obtain⟨W6,rL⟩:=cd (w5.alloc (.cells #[.bool false,az 0 0,ah s3 KD c3,ah s4 DD c4,ah s5 BD c5] 125));have ji:aq w5 W6:=by rw [rL];exact aj
 have k6:W6.heap[w5.heap.size]?=some (.cells #[.bool false,az 0 0,ah s3 KD c3,ah s4 DD c4,ah s5 BD c5] 125):=by rw [rL];exact au _ _ rfl
 have DK:W6=w5.heap.size+1:=by rw [rL];simp
 rw [<-rL];have T6:aA (fun b=>b=nb) W1 W6:=T5.trans (aA.of ji aO);refine hK _ _ (jO _ T6) ?_;clear hK K rL;have z2:W1<=w2.heap.size:=T2.size;have z3:w2<=w3.heap.size:=hb3.size;have z4:w3<=w4.heap.size:=hb4.size;have z5:w4<=w5.heap.size:=cy.size;have B3:aq w2 w3:=⟨hb3.os,hb3.tape,hb3.output,hb3.size,hb3.block⟩;have B6:aq W1 W6:=aF (aF (aF (aF hb2 B3 z2) hb4 ai) cy ai) ji ai;have Av:=(gV.1.below B6 aO).row;refine aP rfl (fun K hK=>?_);refine wp_append_lies _ (.tmp 108) (.tmp 125) 25 rfl M 125 i0 z0 5 104 Tryz.underlying25 hi0 hz0 CI CH CG bY _ rs.length _ rfl Av ⟨w5.heap.size,0,none⟩ 1 1 (bS ⟨false, .slice none 0 0, .slice s3 KD.length c3, .slice s4 DD.length c4, .slice s5 BD.length c5⟩) rfl rfl (World.news_of_block k6) ?hone bY (by unfold maxLen;omega) ai ai W6.heap.size rfl ?_
 case hone=>
  intro u hu;simp [bS]at hu;rcases hu with rfl|rfl|rfl|rfl|rfl <;> rfl
 intro g cap' w7 Au yC WJ RI;have T7:aA (fun b=>b=nb) W1 w7:=aA.grown T6 yC (fun k hk=> .inl (by injection hk with hk;exact hk.symm));refine hK _ _ (jO _ T7) ?_;clear hK K;have zI:g=nb\/g=W6:=WJ.imp (fun h=>(dh h).symm) id;have E0:=yC.size;have yh:∀b,W1.heap.size<=b->b<w5.heap.size->w7.heap[b]?=w5.heap[b]?:=fun b h1 h2=>(yC.block b ai (fun e=>by have e:b=nb:=dh e;omega)).trans (ji.block b h2);have p3:∀g,(ah s3 KD c3).ownBlock=some g->w2.heap.size<=g/\g<w3.heap.size:=fun g hg=>(mC.lt g hg);have p4:∀g,(ah s4 DD c4).ownBlock=some g->w3.heap.size<=g/\g<w4.heap.size:=fun g hg=>zk.lt g hg;have p5:∀g,(ah s5 BD c5).ownBlock=some g->w4.heap.size<=g/\g<w5.heap.size:=fun g hg=>fY.lt g hg;have o3:w7.ownsRow M 3 1 (ah s3 KD c3) KD (KD.flatMap bP):=bJ (cF mC (by show M<=w2;omega)) fun b hb=>by
  have:=p3 b hb;exact(yh b ai ai).trans ((cy.block b ai).trans (hb4.block b ai))
 have o4:w7.ownsRow M 3 1 (ah s4 DD c4) DD (DD.flatMap bP):=bJ (cF zk ai) fun b hb=>by
  have:=p4 b hb;exact(yh b ai ai).trans (cy.block b ai)
 have o5:w7.ownsRow M 107 7 (ah s5 BD c5) BD (BD.flatMap bu):=bJ (cF fY ai) fun b hb=>by
  have:=p5 b hb;exact yh b ai ai
 obtain⟨zl,TG⟩:=Ga (M:=M) (H:=W1.heap.size) (w:=w7) (lf:=false) (x:=⟨false,[],KD,DD,BD⟩) (v1:=ah s3 KD c3) (v2:=ah s4 DD c4) (v3:=ah s5 BD c5) (a:=w3.heap.size) (b:=w4.heap.size) (c:=w5.heap.size) rfl rfl o3 o4 o5 (fun g hg=>by have:=p3 g hg;omega) p4 p5 ai z4 z5 ai;have ki:=ag (gV.1.push (w1:=w7) (nz:=ah g (rs+1) cap') (T7.mono fun b _ h=>by rw [h];rfl) Au (fun b hb=>by
   have hb:g=b:=dh hb;subst hb;rcases zI with e|e
   ·left;rw [e];rfl
   ·right;rw [e];omega) zl (fun f b hb e=>by
   have e:g=b:=dh e;have:=TG f b hb;rcases zI with e'|e' <;> omega))
 obtain⟨d0,-⟩:=jO _ T7;have d1:w7.frozen? ⟨bb,0,none⟩=false:=(T7.frozen Jb xj 0).trans ((hb1.frozen (p:=(bb,0)) hbl).trans (Kr 0))
 (repeat first|refine bg ?_|refine aZ ?_)
 refine bq rfl (fun K hK=>?_);go_simp;refine hK _ _ ?_;clear hK K;refine cC ?_;have T8:aA (fun b=>b=bb\/b=nb) W1 (w7.setCell (bb,0) (ah g (rs+1) cap')):=(T7.mono fun _ _ h=> .inr h).setCell (.inl (.inl rfl)) _;generalize w7.setCell (bb,0) (ah g (rs+1) cap')=W8 at ki T8 ⊢;have hgX:w≠g:=by
  rcases zI with e|e
  ·rw [e];omega
  ·omega
 have Ty:∃rn:Raw,(⟨false,az 0 0,ah s3 KD c3,ah s4 DD c4,ah s5 BD c5⟩:Raw)=rn:=⟨_,rfl⟩;obtain⟨rn,Ty⟩:=Ty;rw [Ty]at ki;clear jO T0 T2 T3 T4 T5 T6 T7 hb2 hb3 hb4 cy mC zk fY ji B3 B6 Av k6 Au yC WJ RI d0 d1 yh p3 p4 p5 o3 o4 o5 zl TG Ty z2 z3 z4 z5 DK E0 zI;have I0:(rs++[rn])[j]?=some r:=by rw [rE hjl];exact gV.2.2.1
 have TA:(rs++[rn]).length=rs+1:=bh;have hcells:=ki.1;rw [<-TA]at hcells;obtain⟨e0,-,-,-,-,-,WW,-,e2,e3,e4⟩:=hcells.cells I0;obtain⟨f0,f1,f2,f3,f4,-⟩:=hcells.cells I0 |>.2;rw [TA]at e0;have RP:=fun w'=>dU (ab:=g) (aR:=0) (n:=rs.length+1) (cap:=cap') (show (j:Int)=((j:Nat):Int) by rfl) ai w';simp only [iR]at RP;have jO:=ag fun(W:World) (hT:aq W8 W)=>(by
  obtain⟨-,g2,g3,g4,-⟩:=HX W (T8.trans (aA.of hT aO));exact⟨(hT.cell (p:=(bb,0)) e2).trans e0,g2,g3,g4⟩:W.cell? (bb,0)=some (ah g (rs+1) cap')/\W.cell? (w,2)=some (ah kb 4 kc)/\W.cell? (w,3)=some (ah db 5 dc)/\W.cell? (w,4)=some (ah gb bl bc))
 have T0:aq W8 W8.drew:=(aW _ _).drew;have Tk:=ag WW;have HE5:=ag (aJ f0 (aJ f1 (aJ f2 (aJ f3 f4))));have HHC:=ag hcells;have afW:IntKind.i64.wrap (1:Int)=1:=bI _ ai;clear hcells e0 WW jh f0 f1 f2 f3 f4;go_wp2_with fail;refine bN [(0,1),(1,1),(2,1),(3,1),(4,0),(5,1),(6,1),(7,0),(8,1),(9,1),(10,1),(12,1),(13,0),(14,1),(15,1),(17,1),(18,0),(19,1),(20,1),(11,2),(16,2),(21,2),(22,1),(23,1),(24,3)] 24 (fun W=>W.cell? (bb,0)=some (ah g (rs+1) cap')/\W.cell? (w,2)=some (ah kb 4 kc)/\W.cell? (w,3)=some (ah db 5 dc)/\W.cell? (w,4)=some (ah gb bl bc)) cV cV (jO _ T0) ?_
 (simp only [bV,List.filterMap_cons,List.filterMap_nil,List.getElem?_cons_zero,List.getElem?_cons_succ,Option.map_some])
 (repeat first|refine bg ?_|refine aZ ?_)
 refine aP rfl (fun K hK=>?_);go_simp
 (with_reducible refine(HC.out _ (T8.trans (aA.of T0 aO))).2.2.2.1.mono ?_);rintro e w3 ⟨v3,rfl,mC,hb3⟩
 obtain⟨s3,c3,rfl⟩:=(bU.mk mC).isSlice;have B3:aq W8 w3:=aF T0 hb3 aO;go_simp;refine hK _ _ (jO _ B3) ?_;clear hK K
 (repeat first|refine bg ?_|refine aZ ?_)
 refine aP rfl (fun K hK=>?_);go_simp
 (with_reducible refine(HC.out _ (T8.trans (aA.of B3 aO))).2.2.2.2.1.mono ?_);rintro e w4 ⟨v4,rfl,zk,hb4⟩
 obtain⟨s4,c4,rfl⟩:=(bU.mk zk).isSlice;have B4:aq W8 w4:=aF B3 hb4 B3.size;go_simp;refine hK _ _ (jO _ B4) ?_;clear hK K
 (repeat first|refine bg ?_|refine aZ ?_)
 refine aP rfl (fun K hK=>?_);go_simp
 (with_reducible refine(HC.out _ (T8.trans (aA.of B4 aO))).2.2.2.2.2.mono ?_);rintro e w5 ⟨v5,rfl,fY,cy⟩
 obtain⟨s5,c5,rfl⟩:=(ay.mk fY).isSlice;have B5:aq W8 w5:=aF B4 cy B4.size;go_simp;refine hK _ _ (jO _ B5) ?_;clear hK K;have IV:=T8.size;have z3:W8<=w3.heap.size:=hb3.size;have z4:w3<=w4.heap.size:=hb4.size;have z5:w4<=w5.heap.size:=cy.size;have p3:∀g,(ah s3 KT c3).ownBlock=some g->W8.heap.size<=g/\g<w3.heap.size:=fun g hg=>(mC.lt g hg);have p4:∀g,(ah s4 DT c4).ownBlock=some g->w3.heap.size<=g/\g<w4.heap.size:=fun g hg=>zk.lt g hg;have p5:∀g,(ah s5 BT c5).ownBlock=some g->w4.heap.size<=g/\g<w5.heap.size:=fun g hg=>fY.lt g hg;have o3:w5.ownsRow M 3 1 (ah s3 KT c3) KT (KT.flatMap bP):=bJ (cF mC (by show M<=W8;omega)) fun b hb=>by
  have:=p3 b hb;exact(cy.block b ai).trans (hb4.block b ai)
 have o4:w5.ownsRow M 3 1 (ah s4 DT c4) DT (DT.flatMap bP):=bJ (cF zk ai) fun b hb=>by
  have:=p4 b hb;exact cy.block b ai
 have o5:w5.ownsRow M 107 7 (ah s5 BT c5) BT (BT.flatMap bu):=cF fY ai;obtain⟨zl,-⟩:=Ga (M:=M) (H:=W8.heap.size) (w:=w5) (lf:=false) (x:=⟨false,[],KT,DT,BT⟩) (v1:=ah s3 KT c3) (v2:=ah s4 DT c4) (v3:=ah s5 BT c5) (a:=w3.heap.size) (b:=w4.heap.size) (c:=w5.heap.size) rfl rfl o3 o4 o5 p3 p4 p5 z3 z4 z5 aO;have Zr:=ag (HHC.whole (n:=j) rfl (by rw [TA];omega) B5 zl);obtain⟨m0,m1,m2,m3,m4⟩:=HE5.out;have d0:=(B5.cell (p:=⟨g,_,none⟩) e3).trans m0;have d1:=(B5.cell (p:=⟨g,_,none⟩) e3).trans m1;have d2:=(B5.cell (p:=⟨g,_,none⟩) e3).trans m2;have d3:=(B5.cell (p:=⟨g,_,none⟩) e3).trans m3;have d4:=(B5.cell (p:=⟨g,_,none⟩) e3).trans m4;have df:∀o,w5.frozen? ⟨g,o,none⟩=false:=fun o=>(B5.frozen (p:=⟨g,_,none⟩) e3).trans (Tk _);have c9:=(jO _ B5).1;clear m0 m1 m2 m3 m4 jO mC zk fY hb3 hb4 cy B3 B4 B5 p3 p4 p5 o3 o4 o5 zl T0 T8 HC HX MU
 (repeat first|refine bg ?_|refine aZ ?_)
 refine bq rfl (fun K hK=>?_);go_simp;refine hK _ _ ?_;clear hK K;refine cC ?_;have f0:(((((w5.setCell (g,j*5) (.bool false)).setCell (g,j*5+1) (az 0 0)).setCell (g,j*5+2) (ah s3 KT c3)).setCell (g,j*5+3) (ah s4 DT c4)).setCell (g,j*5+4) (ah s5 BT c5)).cell? (bb,0)=some (ah g (rs+1) cap'):=by
  rw [oH (a:=⟨bb,0,none⟩) (nN e4)];exact c9
 generalize ((((w5.setCell (g,j*5) (.bool false)).setCell (g,j*5+1) (az 0 0)).setCell (g,j*5+2) (ah s3 KT c3)).setCell (g,j*5+3) (ah s4 DT c4)).setCell (g,j*5+4) (ah s5 BT c5)=WA at Zr f0 ⊢;clear d0 d1 d2 d3 d4 df c9;have hw0:IntKind.i64.wrap ((rs.length:Int)+1-1)=(rs.length:Int)+1-1:=bI _ ai;have hw1:IntKind.i64.wrap ((rs.length:Int)+1-1)=(rs.length:Int):=by rw [hw0];omega
 clear hw0;have hlen:rs=t.nodes.length:=gV.1.len;go_wp2
 go_ret2
 exact⟨rfl,_,_,Zr.1.below (show aq WA _ from aj) aO,((gV.2.1.trans ki.2).trans Zr.2).trans (qB.of (show aq WA _ from aj) aO)⟩
end
theorem AW {M:Nat} {w:World} {bb nb cap j:Nat} {rs:List Raw} {t:Tr} {x:Nd} {r:Raw} (h:Bd M w bb (ah nb rs cap) rs t) (mo:rs[j]?=some r) (wm:t.nodes[j]?=some x) (hjl:j<rs) (hown:gQ M w r x) (vR:r.bv=az 0 0)
  (hl:x.leaf=false) (h5:x.kids.length=5) (h4:x.keys.length=4) (hrow:yZ x.buf) (hkr:0<=x.keys.getD 1 0/\x.keys.getD 1 0<=1099511627776) (hm:t.nodes.length<=1000000000000) (Ei:x.buf=[]) :
  Calls Tryz.prog 119 #[.pointer (some (bb,0)),af (j:Int)] w fun e w'=>e = .returned (.tuple #[af t.nodes,af (x.keys.getD 1 0)]) /\
   mZ M bb (dY bb (ah nb rs cap) rs) w (dz (kN t ⟨false,[],x.keys.drop 2,x.kids.drop 2,x.buf.drop (jr x.buf (x.keys.getD 1 0))⟩) j ⟨false,[],x.keys.take 1,x.kids.take 2,x.buf.take (jr x.buf (x.keys.getD 1 0))⟩) w':=by
 obtain⟨c0,k0,k1,k2,k3,k4,zP,Kr,hbl,hnl,xj⟩:=h.cells mo;obtain⟨es,ec,hev⟩:=hown.aI.isSlice;obtain⟨ks,kc,yx⟩:=hown.keys.isSlice;obtain⟨ds,dc,Bb⟩:=hown.kids.isSlice;have hok:=hown.keys;have wI:=hown.kids;have ni:=hown.buf;rw [yx]at hok;rw [Bb]at wI;rw [vR]at ni;obtain⟨kb,XS,hks,-,-⟩:=World.ownsRow.form hok.row ai;injection hks with Yn _ Ym;subst Yn Ym;obtain⟨db,TP,hds,-,-⟩:=World.ownsRow.form wI.row ai;injection hds with YD _ YC;subst YD YC;have hkc:4<=kc:=by obtain⟨_,_,hv,h1,_⟩:=hok.at ai;injection hv with _ _ hv3;omega
 have hdc:5<=dc:=by obtain⟨_,_,hv,h1,_⟩:=wI.at ai;injection hv with _ _ hv3;omega
 have hko:=h.off j r 1 kb mo (by show r.kv.ownBlock=_;rw [yx];rfl);have YE:=h.off j r 2 db mo (by show r.dv.ownBlock=_;rw [Bb];rfl);have Ko:∀g,(az 0 0).ownBlock=some g->g≠bb/\g≠nb:=fun g hg=>by
  have:=h.off j r 3 g mo (by show r.bv.ownBlock=_;rw [vR];exact hg);exact⟨this.1,fun e=>this.2 (by rw [e];rfl)⟩
 have hk2:kb≠nb:=fun e=>hko.2 (by rw [e];rfl);have hd2:db≠nb:=fun e=>YE.2 (by rw [e];rfl);have hkl:kb<w:=(hok.lt kb rfl).2;have CT:db<w:=(wI.lt db rfl).2;have hM:M<=w:=by have:=(h.lt bb (.inl rfl)).1;omega
 rw [hown.leaf,hl]at k0;rw [hev]at k1;rw [yx,h4]at k2;rw [Bb,h5]at k3;rw [vR]at k4;have jh:=fun w'=>dU (ab:=nb) (aR:=0) (n:=rs.length) (cap:=cap) (show (j:Int)=((j:Nat):Int) by rfl) hjl w';simp only [iR]at jh;obtain⟨key,hy⟩:∃y,x.keys[1]?=some y:=⟨x.keys[1],by simp [h4]⟩;have Nv:x.keys.getD 1 0=key:=by rw [List.getD_eq_getElem?_getD,hy];rfl
 obtain⟨_,_,_,E3,-,XV⟩:=gM.get (hok.at ai) hy;injection E3 with E3 _ Yu;subst Yu;injection E3 with E3;injection E3 with Yw Yv;subst Yw Yv;simp only [iR]at XV;rw [Nv]at hkr ⊢;obtain⟨i,hi⟩:=bG (jr x.buf key);have hil:i<=x.buf:=by rw [<-hi];exact(nJ hrow.1).1
 rw [hi];obtain⟨W1,hW1⟩:=cd (w.alloc (.cells #[.bool false,ah es x.aI ec,ah kb 4 kc,ah db 5 dc,az 0 0] 125));have hb1:aq w W1:=by rw [hW1];exact aj
 have hz1:W1=w.heap.size+1:=by rw [hW1];simp
 have kx:W1.heap[w.heap.size]?=some (.cells #[.bool false,ah es x.aI ec,ah kb 4 kc,ah db 5 dc,az 0 0] 125):=by rw [hW1];exact au _ _ rfl
 have DN:=h.below hb1 aO;have hS1:qB (dY bb (ah nb rs cap) rs) (dY bb (ah nb rs cap) rs) w W1:=qB.of hb1 aO;have HX:=ag fun(W:World) (hT:aA (fun b=>b=bb\/b=nb) W1 W)=>(by
  have e1:W.heap[w.heap.size]?=_:=(hT.block _ ai (by rintro(e|e) <;> omega)).trans kx
  have e2:W.heap[kb]?=w.heap[kb]?:=(hT.block kb ai (by rintro(e|e);exact hko.1 e;exact hk2 e)).trans (hb1.block kb hkl);have e3:W.heap[db]?=w.heap[db]?:=(hT.block db ai (by rintro(e|e);exact YE.1 e;exact hd2 e)).trans (hb1.block db CT);have e4:∀g,(az 0 0).ownBlock=some g->W.heap[g]?=w.heap[g]?:=fun g hg=>(hT.block g (by have:=(ni.lt g hg).2;omega) (by rintro(e|e);exact(Ko g hg).1 e;exact(Ko g hg).2 e)).trans (hb1.block g (ni.lt g hg).2);refine⟨by simp [World.cell?,e1],by simp [World.cell?,e1],by simp [World.cell?,e1],by simp [World.cell?,e1],by rw [oH (a:=⟨kb,1,none⟩) e2];exact XV,hok.block fun g hg=>?_,wI.block fun g hg=>?_,ni.block e4⟩
  ·injection hg with hg;subst hg;exact e2
  ·injection hg with hg;subst hg;exact e3 :
  W.cell? (w,0)=some (.bool false)/\W.cell? (w,2)=some (ah kb 4 kc)/\W.cell? (w,3)=some (ah db 5 dc)/\W.cell? (w,4)=some (az 0 0)/\(W,kb,1,key) /\
  bU M W (ah kb x.keys kc) x.keys/\bU M W (ah db x.kids dc) x.kids/\ay M W (az 0 0) x.buf)
 have HC:=ag fun(W:World) (hT:aA (fun b=>b=bb\/b=nb) W1 W)=>(by
  obtain⟨-,-,-,-,-,o1,o2,o3⟩:=HX W hT;have a1:=vJ (i:=2) o1 ai ai 2 (fun _=>rfl);have a2:=vI (i:=1) o1 ai ai;have b1:=vJ (i:=2) o2 ai ai 2 (fun _=>rfl);have b2:=vI (i:=2) o2 ai ai;rw [h4]at a1;rw [h5]at b1;have c1:cX W (az 0 0) (x.buf.drop i):=by rw [Ei,List.drop_nil];exact ct.nil _ _ _ _
  have c2:cX W (az 0 0) (x.buf.take i):=by rw [Ei,List.take_nil];exact ct.nil _ _ _ _
  exact⟨eQ a1,eQ b1,fT c1,eQ a2,eQ b2,fT c2⟩ :
  Calls Tryz.prog 90 #[ah (some (kb,2)) (4-2) (kc-2)] W (fun e w'=>∃v',e = .returned v'/\w'.ownsRow W 3 1 v' (x.keys.drop 2).length ((x.keys.drop 2).flatMap bP)/\aq W w') /\
  Calls Tryz.prog 90 #[ah (some (db,2)) (5-2) (dc-2)] W (fun e w'=>∃v',e = .returned v'/\w'.ownsRow W 3 1 v' (x.kids.drop 2).length ((x.kids.drop 2).flatMap bP)/\aq W w') /\
  Calls Tryz.prog 89 #[az 0 0] W (fun e w'=>∃v',e = .returned v'/\w'.ownsRow W 107 7 v' (x.buf.drop i).length ((x.buf.drop i).flatMap bu)/\aq W w') /\
  Calls Tryz.prog 90 #[ah kb 1 kc] W (fun e w'=>∃v',e = .returned v'/\w'.ownsRow W 3 1 v' (x.keys.take 1).length ((x.keys.take 1).flatMap bP)/\aq W w') /\
  Calls Tryz.prog 90 #[ah db 2 dc] W (fun e w'=>∃v',e = .returned v'/\w'.ownsRow W 3 1 v' (x.kids.take 2).length ((x.kids.take 2).flatMap bP)/\aq W w') /\
  Calls Tryz.prog 89 #[az 0 0] W (fun e w'=>∃v',e = .returned v'/\w'.ownsRow W 107 7 v' (x.buf.take i).length ((x.buf.take i).flatMap bu)/\aq W w'))
 have MU:=ag fun(W:World) (hT:aA (fun b=>b=bb\/b=nb) W1 W)=>(by
  have:=Gn (x:=key) ((HX W hT).2.2.2.2.2.2.2.at (by have:=hrow.2.2.2;omega)) hrow.1 (fun e he=>by have:=hrow.2.2.1 e he;omega);rw [hi]at this;exact this:Calls Tryz.prog 117 #[az 0 0,af key] W fun r w'=>r = .returned (.tuple #[af (i:Int), .bool (uG x.buf key)])/\aq W w')
 obtain⟨hs,LQ⟩:=bG (uG x.buf key);rw [LQ]at MU;clear LQ;obtain⟨KD,YZ⟩:=bG (x.keys.drop 2);obtain⟨KT,YY⟩:=bG (x.keys.take 1);obtain⟨DD,Y1⟩:=bG (x.kids.drop 2);obtain⟨DT,Y0⟩:=bG (x.kids.take 2);obtain⟨BD,Y3⟩:=bG (x.buf.drop i);obtain⟨BT,Y2⟩:=bG (x.buf.take i);rw [YZ,YY,Y1,Y0,Y3,Y2]at HC;rw [YZ,YY,Y1,Y0,Y3,Y2];clear YZ YY Y1 Y0 Y3 Y2;obtain⟨i0,z0,hi0,hz0,CI,CH,CG⟩:=qj;have hlen:rs=t.nodes.length:=h.len;have hrl:rs.length<=1000000000000:=ai;have gV:=ag (aJ DN (aJ hS1 (aJ mo wm)));have hg2:¬(kc=2):=ai;have hg3:(2:Int)<=(kc:Int):=ai;have hg4:(1:Int)<=(kc:Int):=ai;have hg5:¬(dc=2):=ai;have hg6:(2:Int)<=(dc:Int):=ai;have hi9:i=0:=by rw [Ei]at hil;simpa using hil
 subst hi9;clear Ei hil;have Jb:bb<W1:=ai;have abP:nb<W1:=ai;have c0':W1.cell? (bb,0)=some (ah nb rs cap):=(hb1.cell (p:=(bb,0)) hbl).trans c0;obtain⟨q0,q2,q3,q4,qk,-⟩:=HX W1 (aA.refl _ _);clear h hown hev yx Bb vR hl hlen hok wI ni DN hS1 hko YE Ko mo wm Nv hy XV hrow hi hkr;go_enter Tryz.func119,Tryz.ntmps119;go_upto_region 2 with (fail);rw [<-hW1];clear hW1 k0 k1 k2 k3 k4 zP c0 kx;have jO:=ag fun(W:World) (hT:aA (fun b=>b=nb) W1 W)=>(by
  obtain⟨-,g2,g3,g4,-⟩:=HX W (hT.mono fun _ _ h=> .inr h);exact⟨(hT.cell Jb xj 0).trans c0',g2,g3,g4⟩:W.cell? (bb,0)=some (ah nb rs cap)/\W.cell? (w,2)=some (ah kb 4 kc)/\W.cell? (w,3)=some (ah db 5 dc)/\W.cell? (w,4)=some (az 0 0))
 clear c0';go_wp2_with ((go_at_call 117;(with_reducible refine(MU.out _ (aA.refl _ _)).mono ?_);rintro e w2 ⟨rfl,hb2⟩));clear q0 q2 q3 q4 qk;have T2:aA (fun b=>b=nb) W1 w2:=aA.of hb2 aO;have T0:aA (fun b=>b=nb) W1 w2.drew:=T2.drew;refine bN [(0,1),(1,1),(2,1),(3,1),(4,1),(5,0),(6,1),(7,0),(8,1),(9,1),(11,1),(12,0),(13,1),(14,1),(16,1),(17,0),(18,1),(19,1),(10,2),(15,2),(20,2),(21,1),(22,2),(23,2),(24,1),(25,1),(26,1),(27,3)] 27 (fun W=>W.cell? (bb,0)=some (ah nb rs cap)/\W.cell? (w,2)=some (ah kb 4 kc)/\W.cell? (w,3)=some (ah db 5 dc)/\W.cell? (w,4)=some (az 0 0)) cV cV (jO _ T0) ?_
 (simp only [bV,List.filterMap_cons,List.filterMap_nil,List.getElem?_cons_zero,List.getElem?_cons_succ,Option.map_some])
 (repeat first|refine bg ?_|refine aZ ?_)
 refine aP rfl (fun K hK=>?_);go_simp
 (with_reducible refine(HC.out _ (T0.mono fun _ _ h=> .inr h)).1.mono ?_);rintro e w3 ⟨v3,rfl,mC,hb3⟩
 obtain⟨s3,c3,rfl⟩:=(bU.mk mC).isSlice;have T3:aA (fun b=>b=nb) W1 w3:=T0.trans (aA.of hb3 aO);go_simp;refine hK _ _ (jO _ T3) ?_;clear hK K
 (repeat first|refine bg ?_|refine aZ ?_)
 refine aP rfl (fun K hK=>?_);go_simp
 (with_reducible refine(HC.out _ (T3.mono fun _ _ h=> .inr h)).2.1.mono ?_);rintro e w4 ⟨v4,rfl,zk,hb4⟩
 obtain⟨s4,c4,rfl⟩:=(bU.mk zk).isSlice;have T4:aA (fun b=>b=nb) W1 w4:=T3.trans (aA.of hb4 aO);go_simp;refine hK _ _ (jO _ T4) ?_;clear hK K
 (repeat first|refine bg ?_|refine aZ ?_)
 refine aP rfl (fun K hK=>?_);go_simp
 (with_reducible refine(HC.out _ (T4.mono fun _ _ h=> .inr h)).2.2.1.mono ?_);rintro e w5 ⟨v5,rfl,fY,cy⟩
 obtain⟨s5,c5,rfl⟩:=(ay.mk fY).isSlice;have T5:aA (fun b=>b=nb) W1 w5:=T4.trans (aA.of cy aO);go_simp;refine hK _ _ (jO _ T5) ?_;clear hK K
 (repeat first|refine bg ?_|refine aZ ?_)
 refine aP rfl (fun K hK=>?_);go_simp;obtain⟨W6,rL⟩:=cd (w5.alloc (.cells #[.bool false,az 0 0,ah s3 KD c3,ah s4 DD c4,ah s5 BD c5] 125));have ji:aq w5 W6:=by rw [rL];exact aj
 have k6:W6.heap[w5.heap.size]?=some (.cells #[.bool false,az 0 0,ah s3 KD c3,ah s4 DD c4,ah s5 BD c5] 125):=by rw [rL];exact au _ _ rfl
 have DK:W6=w5.heap.size+1:=by rw [rL];simp
 rw [<-rL];have T6:aA (fun b=>b=nb) W1 W6:=T5.trans (aA.of ji aO);refine hK _ _ (jO _ T6) ?_;clear hK K rL;have z2:W1<=w2.heap.size:=T2.size;have z3:w2<=w3.heap.size:=hb3.size;have z4:w3<=w4.heap.size:=hb4.size;have z5:w4<=w5.heap.size:=cy.size;have B3:aq w2 w3:=⟨hb3.os,hb3.tape,hb3.output,hb3.size,hb3.block⟩;have B6:aq W1 W6:=aF (aF (aF (aF hb2 B3 z2) hb4 ai) cy ai) ji ai;have Av:=(gV.1.below B6 aO).row;refine aP rfl (fun K hK=>?_);refine wp_append_lies _ (.tmp 108) (.tmp 125) 25 rfl M 125 i0 z0 5 104 Tryz.underlying25 hi0 hz0 CI CH CG bY _ rs.length _ rfl Av ⟨w5.heap.size,0,none⟩ 1 1 (bS ⟨false, .slice none 0 0, .slice s3 KD.length c3, .slice s4 DD.length c4, .slice s5 BD.length c5⟩) rfl rfl (World.news_of_block k6) ?hone bY (by unfold maxLen;omega) ai ai W6.heap.size rfl ?_
 case hone=>
  intro u hu;simp [bS]at hu;rcases hu with rfl|rfl|rfl|rfl|rfl <;> rfl
 intro g cap' w7 Au yC WJ RI;have T7:aA (fun b=>b=nb) W1 w7:=aA.grown T6 yC (fun k hk=> .inl (by injection hk with hk;exact hk.symm));refine hK _ _ (jO _ T7) ?_;clear hK K;have zI:g=nb\/g=W6:=WJ.imp (fun h=>(dh h).symm) id;have E0:=yC.size;have yh:∀b,W1.heap.size<=b->b<w5.heap.size->w7.heap[b]?=w5.heap[b]?:=fun b h1 h2=>(yC.block b ai (fun e=>by have e:b=nb:=dh e;omega)).trans (ji.block b h2);have p3:∀g,(ah s3 KD c3).ownBlock=some g->w2.heap.size<=g/\g<w3.heap.size:=fun g hg=>(mC.lt g hg);have p4:∀g,(ah s4 DD c4).ownBlock=some g->w3.heap.size<=g/\g<w4.heap.size:=fun g hg=>zk.lt g hg;have p5:∀g,(ah s5 BD c5).ownBlock=some g->w4.heap.size<=g/\g<w5.heap.size:=fun g hg=>fY.lt g hg;have o3:w7.ownsRow M 3 1 (ah s3 KD c3) KD (KD.flatMap bP):=bJ (cF mC (by show M<=w2;omega)) fun b hb=>by
  have:=p3 b hb;exact(yh b ai ai).trans ((cy.block b ai).trans (hb4.block b ai))
 have o4:w7.ownsRow M 3 1 (ah s4 DD c4) DD (DD.flatMap bP):=bJ (cF zk ai) fun b hb=>by
  have:=p4 b hb;exact(yh b ai ai).trans (cy.block b ai)
 have o5:w7.ownsRow M 107 7 (ah s5 BD c5) BD (BD.flatMap bu):=bJ (cF fY ai) fun b hb=>by
  have:=p5 b hb;exact yh b ai ai
 obtain⟨zl,TG⟩:=Ga (M:=M) (H:=W1.heap.size) (w:=w7) (lf:=false) (x:=⟨false,[],KD,DD,BD⟩) (v1:=ah s3 KD c3) (v2:=ah s4 DD c4) (v3:=ah s5 BD c5) (a:=w3.heap.size) (b:=w4.heap.size) (c:=w5.heap.size) rfl rfl o3 o4 o5 (fun g hg=>by have:=p3 g hg;omega) p4 p5 ai z4 z5 ai;have ki:=ag (gV.1.push (w1:=w7) (nz:=ah g (rs+1) cap') (T7.mono fun b _ h=>by rw [h];rfl) Au (fun b hb=>by
   have hb:g=b:=dh hb;subst hb;rcases zI with e|e
   ·left;rw [e];rfl
   ·right;rw [e];omega) zl (fun f b hb e=>by
   have e:g=b:=dh e;have:=TG f b hb;rcases zI with e'|e' <;> omega))
 obtain⟨d0,-⟩:=jO _ T7;have d1:w7.frozen? ⟨bb,0,none⟩=false:=(T7.frozen Jb xj 0).trans ((hb1.frozen (p:=(bb,0)) hbl).trans (Kr 0))
 (repeat first|refine bg ?_|refine aZ ?_)
 refine bq rfl (fun K hK=>?_);go_simp;refine hK _ _ ?_;clear hK K;refine cC ?_;have T8:aA (fun b=>b=bb\/b=nb) W1 (w7.setCell (bb,0) (ah g (rs+1) cap')):=(T7.mono fun _ _ h=> .inr h).setCell (.inl (.inl rfl)) _;generalize w7.setCell (bb,0) (ah g (rs+1) cap')=W8 at ki T8 ⊢;have hgX:w≠g:=by
  rcases zI with e|e
  ·rw [e];omega
  ·omega
 have Ty:∃rn:Raw,(⟨false,az 0 0,ah s3 KD c3,ah s4 DD c4,ah s5 BD c5⟩:Raw)=rn:=⟨_,rfl⟩;obtain⟨rn,Ty⟩:=Ty;rw [Ty]at ki;clear jO T0 T2 T3 T4 T5 T6 T7 hb2 hb3 hb4 cy mC zk fY ji B3 B6 Av k6 Au yC WJ RI d0 d1 yh p3 p4 p5 o3 o4 o5 zl TG Ty z2 z3 z4 z5 DK E0 zI;have I0:(rs++[rn])[j]?=some r:=by rw [rE hjl];exact gV.2.2.1
 have TA:(rs++[rn]).length=rs+1:=bh;have hcells:=ki.1;rw [<-TA]at hcells;obtain⟨e0,-,-,-,-,-,WW,-,e2,e3,e4⟩:=hcells.cells I0;obtain⟨f0,f1,f2,f3,f4,-⟩:=hcells.cells I0 |>.2;rw [TA]at e0;have RP:=fun w'=>dU (ab:=g) (aR:=0) (n:=rs.length+1) (cap:=cap') (show (j:Int)=((j:Nat):Int) by rfl) ai w';simp only [iR]at RP;have jO:=ag fun(W:World) (hT:aq W8 W)=>(by
  obtain⟨-,g2,g3,g4,-⟩:=HX W (T8.trans (aA.of hT aO));exact⟨(hT.cell (p:=(bb,0)) e2).trans e0,g2,g3,g4⟩:W.cell? (bb,0)=some (ah g (rs+1) cap')/\W.cell? (w,2)=some (ah kb 4 kc)/\W.cell? (w,3)=some (ah db 5 dc)/\W.cell? (w,4)=some (az 0 0))
 have T0:aq W8 W8.drew:=(aW _ _).drew;have Tk:=ag WW;have HE5:=ag (aJ f0 (aJ f1 (aJ f2 (aJ f3 f4))));have HHC:=ag hcells;have afW:IntKind.i64.wrap (1:Int)=1:=bI _ ai;clear hcells e0 WW jh f0 f1 f2 f3 f4;go_wp2_with fail;refine bN [(0,1),(1,1),(2,1),(3,1),(4,0),(5,1),(6,1),(7,0),(8,1),(9,1),(10,1),(12,1),(13,0),(14,1),(15,1),(17,1),(18,0),(19,1),(20,1),(11,2),(16,2),(21,2),(22,1),(23,1),(24,3)] 24 (fun W=>W.cell? (bb,0)=some (ah g (rs+1) cap')/\W.cell? (w,2)=some (ah kb 4 kc)/\W.cell? (w,3)=some (ah db 5 dc)/\W.cell? (w,4)=some (az 0 0)) cV cV (jO _ T0) ?_
 (simp only [bV,List.filterMap_cons,List.filterMap_nil,List.getElem?_cons_zero,List.getElem?_cons_succ,Option.map_some])
 (repeat first|refine bg ?_|refine aZ ?_)
 refine aP rfl (fun K hK=>?_);go_simp
 (with_reducible refine(HC.out _ (T8.trans (aA.of T0 aO))).2.2.2.1.mono ?_);rintro e w3 ⟨v3,rfl,mC,hb3⟩
 obtain⟨s3,c3,rfl⟩:=(bU.mk mC).isSlice;have B3:aq W8 w3:=aF T0 hb3 aO;go_simp;refine hK _ _ (jO _ B3) ?_;clear hK K
 (repeat first|refine bg ?_|refine aZ ?_)
 refine aP rfl (fun K hK=>?_);go_simp
 (with_reducible refine(HC.out _ (T8.trans (aA.of B3 aO))).2.2.2.2.1.mono ?_);rintro e w4 ⟨v4,rfl,zk,hb4⟩
 obtain⟨s4,c4,rfl⟩:=(bU.mk zk).isSlice;have B4:aq W8 w4:=aF B3 hb4 B3.size;go_simp;refine hK _ _ (jO _ B4) ?_;clear hK K
 (repeat first|refine bg ?_|refine aZ ?_)
 refine aP rfl (fun K hK=>?_);go_simp
 (with_reducible refine(HC.out _ (T8.trans (aA.of B4 aO))).2.2.2.2.2.mono ?_);rintro e w5 ⟨v5,rfl,fY,cy⟩
 obtain⟨s5,c5,rfl⟩:=(ay.mk fY).isSlice;have B5:aq W8 w5:=aF B4 cy B4.size;go_simp;refine hK _ _ (jO _ B5) ?_;clear hK K;have IV:=T8.size;have z3:W8<=w3.heap.size:=hb3.size;have z4:w3<=w4.heap.size:=hb4.size;have z5:w4<=w5.heap.size:=cy.size;have p3:∀g,(ah s3 KT c3).ownBlock=some g->W8.heap.size<=g/\g<w3.heap.size:=fun g hg=>(mC.lt g hg);have p4:∀g,(ah s4 DT c4).ownBlock=some g->w3.heap.size<=g/\g<w4.heap.size:=fun g hg=>zk.lt g hg;have p5:∀g,(ah s5 BT c5).ownBlock=some g->w4.heap.size<=g/\g<w5.heap.size:=fun g hg=>fY.lt g hg;have o3:w5.ownsRow M 3 1 (ah s3 KT c3) KT (KT.flatMap bP):=bJ (cF mC (by show M<=W8;omega)) fun b hb=>by
  have:=p3 b hb;exact(cy.block b ai).trans (hb4.block b ai)
 have o4:w5.ownsRow M 3 1 (ah s4 DT c4) DT (DT.flatMap bP):=bJ (cF zk ai) fun b hb=>by
  have:=p4 b hb;exact cy.block b ai
 have o5:w5.ownsRow M 107 7 (ah s5 BT c5) BT (BT.flatMap bu):=cF fY ai;obtain⟨zl,-⟩:=Ga (M:=M) (H:=W8.heap.size) (w:=w5) (lf:=false) (x:=⟨false,[],KT,DT,BT⟩) (v1:=ah s3 KT c3) (v2:=ah s4 DT c4) (v3:=ah s5 BT c5) (a:=w3.heap.size) (b:=w4.heap.size) (c:=w5.heap.size) rfl rfl o3 o4 o5 p3 p4 p5 z3 z4 z5 aO;have Zr:=ag (HHC.whole (n:=j) rfl (by rw [TA];omega) B5 zl);obtain⟨m0,m1,m2,m3,m4⟩:=HE5.out;have d0:=(B5.cell (p:=⟨g,_,none⟩) e3).trans m0;have d1:=(B5.cell (p:=⟨g,_,none⟩) e3).trans m1;have d2:=(B5.cell (p:=⟨g,_,none⟩) e3).trans m2;have d3:=(B5.cell (p:=⟨g,_,none⟩) e3).trans m3;have d4:=(B5.cell (p:=⟨g,_,none⟩) e3).trans m4;have df:∀o,w5.frozen? ⟨g,o,none⟩=false:=fun o=>(B5.frozen (p:=⟨g,_,none⟩) e3).trans (Tk _);have c9:=(jO _ B5).1;clear m0 m1 m2 m3 m4 jO mC zk fY hb3 hb4 cy B3 B4 B5 p3 p4 p5 o3 o4 o5 zl T0 T8 HC HX MU
 (repeat first|refine bg ?_|refine aZ ?_)
 refine bq rfl (fun K hK=>?_);go_simp;refine hK _ _ ?_;clear hK K;refine cC ?_;have f0:(((((w5.setCell (g,j*5) (.bool false)).setCell (g,j*5+1) (az 0 0)).setCell (g,j*5+2) (ah s3 KT c3)).setCell (g,j*5+3) (ah s4 DT c4)).setCell (g,j*5+4) (ah s5 BT c5)).cell? (bb,0)=some (ah g (rs+1) cap'):=by
  rw [oH (a:=⟨bb,0,none⟩) (nN e4)];exact c9
 generalize ((((w5.setCell (g,j*5) (.bool false)).setCell (g,j*5+1) (az 0 0)).setCell (g,j*5+2) (ah s3 KT c3)).setCell (g,j*5+3) (ah s4 DT c4)).setCell (g,j*5+4) (ah s5 BT c5)=WA at Zr f0 ⊢;clear d0 d1 d2 d3 d4 df c9;have hw0:IntKind.i64.wrap ((rs.length:Int)+1-1)=(rs.length:Int)+1-1:=bI _ ai;have hw1:IntKind.i64.wrap ((rs.length:Int)+1-1)=(rs.length:Int):=by rw [hw0];omega
 clear hw0;have hlen:rs=t.nodes.length:=gV.1.len;go_wp2
 go_ret2
 exact⟨rfl,_,_,Zr.1.below (show aq WA _ from aj) aO,((gV.2.1.trans ki.2).trans Zr.2).trans (qB.of (show aq WA _ from aj) aO)⟩
theorem zo {M:Nat} {w:World} {bb:Nat} {nv:Value} {rs:List Raw} {t t':Tr} {n more key:Int} (h:Bd M w bb nv rs t) (hF:jn t n=some (t',more,key)) :
  Calls Tryz.prog 119 #[.pointer (some (bb,0)),af n] w fun e w'=>e = .returned (.tuple #[af more,af key])/\mZ M bb (dY bb nv rs) w t' w':=by
 unfold jn at hF
 split at hF
 ·cases hF
 ·rename_i x hx
  split at hF
  ·rename_i hl
   split at hF
   ·rename_i h6
    injection hF with hF;injection hF with h1 h2;injection h2 with h2 h3;subst h1 h2 h3;exact BV h hx (.inl ⟨hl,h6⟩)
   ·split at hF
    ·rename_i hg
     injection hF with hF;injection hF with h1 h2;injection h2 with h2 h3;subst h1 h2 h3;exact KH h hx hl hg.1 hg.2
    ·cases hF
  ·rename_i hl
   have hl:x.leaf=false:=by simpa using hl
   split at hF
   ·rename_i h4
    injection hF with hF;injection hF with h1 h2;injection h2 with h2 h3;subst h1 h2 h3;exact BV h hx (.inr ⟨hl,h4⟩)
   ·split at hF
    ·rename_i hg
     obtain⟨g1,g2,g3,g4,g5⟩:=hg;injection hF with hF;injection hF with h1 h2;injection h2 with h2 h3;subst h1 h2 h3;obtain⟨j,nb,cap,r,rfl,rfl,mo,wm,hjl,hown⟩:=h.place hx;obtain⟨-,⟨vR,hb0⟩|⟨gb,bc,cur,vR,-⟩⟩:=hown.buf.row
     ·exact AW h mo wm hjl hown vR hl g1 g2 g3 g4 g5 (yX hb0)
     ·by_cases hc:bc=jr x.buf (x.keys.getD 1 0)
      ·exact tO (o:=0) h mo wm hjl hown vR hl g1 g2 g3 g4 g5 rfl (by rw [aw hc])
      ·exact tO h mo wm hjl hown vR hl g1 g2 g3 g4 g5 rfl (by rw [ar hc])
    ·cases hF
end Go.Proofs.YtmljjfhgciaceaaGreatDoor
