import Derived.Test.YtmljjfhgciaceaaDoorHd
import Derived.Test.YtmljjfhgciaceaaDoorPA
import Derived.Test.YtmljjfhgciaceaaDoorIG
import Derived.Test.YtmljjfhgciaceaaDoorGT
import Derived.Test.YtmljjfhgciaceaaDoorSR
import Derived.Test.YtmljjfhgciaceaaDoorKG
namespace Go.Proofs.YtmljjfhgciaceaaDoor
open Go.RowKit
set_option maxRecDepth 100000
set_option maxHeartbeats 1000000
variable {es:List aA} {B:Nat} {w:World}
def Hr (B:Nat) (w:World) (v:Value) (es:List aA) (r:Option (List aA)) (e:Ending) (w':World):Prop:=
 aw (fun b=>v.ownBlock=some b) w w'/\(match r with|none=>e = .returned (.tuple #[v, .int .i64 1])/\av B w' v es|some l=>∃v',e = .returned (.tuple #[v', .int .i64 0])/\av B w' v' l/\∀b,v'.ownBlock=some b->v.ownBlock=some b\/w.heap.size<=b)
theorem fH (e:aA) (R:List Value) (i j:Nat) (u:Value):(bj e++R).set ((i+1)*7+j) u=bj e++R.set (i*7+j) u:=by
 rw [show (i+1)*7+j=i*7+j+7 from by omega];rfl
theorem Ei {y:au}:∀{es:List aA} {i:Nat} (hi:i<es.length),(es.set i ⟨es[i].key,y⟩).flatMap bj =
  (((((((es.flatMap bj).set (i*7+1) (.int .i64 y.c)).set (i*7+2) (.int .i64 y.s)).set (i*7+3) (.int .i64 y.mi)).set (i*7+4) (.int .i64 y.ma)).set (i*7+5) (.int .i64 y.t)).set (i*7+6) (.int .i64 y.l))
 |[],i,hi=>by simp at hi
 |e::es,0,_=>rfl
 |e::es,i+1,hi=>by
  have ih:=Ei (y:=y) (es:=es) (i:=i) (by simpa using hi)
  simp only [List.set_cons_succ,List.getElem_cons_succ,gG]
  rw [fH,fH,fH,fH,fH,fH,ih]
theorem av.set {g cap:Nat} {i:Nat} {y:au} (h:av B w (.slice (some ⟨g,0,none⟩) es.length cap) es) (hi:i<es.length) :
  av B ((((((w.setCell ⟨g,i*7+1,none⟩ (.int .i64 y.c)).setCell ⟨g,i*7+2,none⟩ (.int .i64 y.s)).setCell ⟨g,i*7+3,none⟩ (.int .i64 y.mi)).setCell ⟨g,i*7+4,none⟩ (.int .i64 y.ma)).setCell ⟨g,i*7+5,none⟩ (.int .i64 y.t)).setCell ⟨g,i*7+6,none⟩ (.int .i64 y.l)) (.slice (some ⟨g,0,none⟩) es.length cap) (es.set i ⟨es[i].key,y⟩):=by
 refine⟨?_⟩
 rw [Ei hi,zQ]
 exact(World.ownsRow.stored (World.ownsRow.stored (World.ownsRow.stored (World.ownsRow.stored (World.ownsRow.stored (World.ownsRow.stored h.row _ _).1 _ _).1 _ _).1 _ _).1 _ _).1 _ _).1
theorem tz {v:Value} {x:aA} (hown:av B w v es) (hB:B<=w.heap.size) (hlen:es.length<=100000) (hs:aV es) (hc:∀e∈es,aj e.is=0) (hx:aj x.is=0)
  (hk:∀e∈es,0<=e.key/\e.key<1099511627776) (hxk:0<=x.key/\x.key<1099511627776) :
  Calls Tryd.prog 89 #[v, .agg #[.int .i64 x.key, .int .i64 x.is.c, .int .i64 x.is.s, .int .i64 x.is.mi, .int .i64 x.is.ma, .int .i64 x.is.t, .int .i64 x.is.l]] w (Hr B w v es (jG es x)):=by
 obtain⟨so,sc,rfl⟩:=hown.isSlice
 obtain⟨W0,hW0⟩:=bQ (w.alloc (.cells #[.int .i64 x.key, .int .i64 x.is.c, .int .i64 x.is.s, .int .i64 x.is.mi, .int .i64 x.is.ma, .int .i64 x.is.t, .int .i64 x.is.l] 96))
 have hb0:ah w W0:=by rw [hW0];exact ag
 have hz0:W0.heap.size=w.heap.size+1:=by rw [hW0];simp
 have k0:W0.heap[w.heap.size]?=some (.cells #[.int .i64 x.key, .int .i64 x.is.c, .int .i64 x.is.s, .int .i64 x.is.mi, .int .i64 x.is.ma, .int .i64 x.is.t, .int .i64 x.is.l] 96):=by rw [hW0];exact aq _ _ rfl
 have hown0:av B W0 (.slice so es.length sc) es:=hown.below hb0 aI
 have HX:=hdd fun w' (hb:ah W0 w')=>(by
  have b0:w'.heap[w.heap.size]?=_:=(hb.block _ af).trans k0
  simp [World.cell?,b0]:w'.cell? ⟨w.heap.size,0,none⟩=some (.int .i64 x.key)/\w'.cell? ⟨w.heap.size,1,none⟩=some (.int .i64 x.is.c)/\w'.cell? ⟨w.heap.size,2,none⟩=some (.int .i64 x.is.s)/\w'.cell? ⟨w.heap.size,3,none⟩=some (.int .i64 x.is.mi)/\w'.cell? ⟨w.heap.size,4,none⟩=some (.int .i64 x.is.ma)/\w'.cell? ⟨w.heap.size,5,none⟩=some (.int .i64 x.is.t)/\w'.cell? ⟨w.heap.size,6,none⟩=some (.int .i64 x.is.l))
 have K4:=hdd (Ct (x:=x.key) (w:=W0) (hown0.at af) hs (fun e he=>by have:=hk e he;omega))
 obtain⟨hs',GF⟩:=bw (qW es x.key)
 obtain⟨ps,hps⟩:=bw (ic es x.key)
 rw [GF,hps]at K4
 have hpl:ps<=es.length:=by rw [<-hps];exact(ly hs).1
 obtain⟨q0,-⟩:=HX.out _ (aJ _ _)
 go_enter Tryd.func89,Tryd.ntmps89
 go_upto_region 1 with (fail)
 rw [<-hW0]
 clear hW0 k0
 cases hs' with
 |false=>
  have HI:=hdd (Mj hs GF)
  rw [hps]at HI
  go_upto_region 3 with ((go_at_call 94;(with_reducible refine K4.out.mono ?_);rintro e w1 ⟨rfl,hb1⟩))
  obtain⟨x0,x1,x2,x3,x4,x5,x6⟩:=HX.out _ hb1
  have hown1:av B w1 (.slice so es.length sc) es:=hown0.below hb1 aI
  have ht1:aw (fun b=>(Value.slice so es.length sc).ownBlock=some b) w w1:=aw.of (Below.trans' hb0 hb1 hb0.size) aI
  have hs1:B<=w1.heap.size:=by have:=hb1.size;omega
  obtain⟨W2,hW2⟩:=bQ (w1.alloc (.cells #[.int .i64 x.key, .int .i64 x.is.c, .int .i64 x.is.s, .int .i64 x.is.mi, .int .i64 x.is.ma, .int .i64 x.is.t, .int .i64 x.is.l] 96))
  have zV:=hdd (DK (B:=B) (w:=W2) (v:= .slice so es.length sc) (es:=es) (i:=ps) (vb:=w1.heap.size) (x:=x) (by rw [hW2];exact hown1.alloc _) hpl (by rw [hW2];simp;omega) hlen (by rw [hW2];exact aq _ _ rfl) (fun h=>by have:=(hown1.lt _ h).2;omega))
  have ht2:aw (fun b=>(Value.slice so es.length sc).ownBlock=some b) w W2:=by rw [hW2];exact ht1.alloc _
  rw [hW2]at zV
  clear hc hk hs GF hps K4 HX
  go_wp2_with ((go_at_call 113;(with_reducible refine zV.out.mono ?_);rintro e w3 ⟨v3,rfl,kY,hg3,PW⟩))
  go_ret2
  rw [HI.out]
  have hs2:w.heap.size<=W2.heap.size:=ht2.size
  exact⟨aw.grown (hW2▸ht2) hg3 (fun k hk=> .inl hk),v3,rfl,kY,fun b hb=>by
   rcases PW with h|h
   ·exact .inl (h.symm.trans hb)
   ·rw [<-hW2,hb]at h;injection h with h;exact .inr af⟩
 |true=>
  obtain⟨i,hi,hp,hkk,-⟩:=Bg hs GF
  obtain rfl:i=ps:=hp.symm.trans hps
  have HI:=hdd (yV hi hs hp hkk)
  have O0:=hdd (hc _ (fO hi))
  have Bx:=hdd hkk
  obtain⟨hl,⟨h0,h0'⟩|⟨g,cap,cur,hv,hBg,hg,-⟩⟩:=id hown.row
  ·omega
  injection hv with hv1 _ hv3
  subst hv1 hv3
  go_upto_region 4 with ((go_at_call 94;(with_reducible refine K4.out.mono ?_);rintro e w9 ⟨rfl,hb1⟩))
  have IE:av B w9 (.slice (some ⟨g,0,none⟩) es.length sc) es:=hown0.below hb1 aI
  have UZ:aw (fun b=>(Value.slice (some ⟨g,0,none⟩) es.length sc).ownBlock=some b) w w9:=aw.of (Below.trans' hb0 hb1 hb0.size) aI
  have hs9:w.heap.size+1<=w9.heap.size:=by have:=hb1.size;omega
  have S9:g<w9.heap.size:=(IE.lt g rfl).2
  obtain⟨_,_,hv,-,-,-,-,h5⟩:=IE.at af
  injection hv with hv1 _ hv3
  subst hv3
  obtain⟨eb,bZ,lR,rW,nH⟩:=h5 af
  rw [<-hv1]at lR
  obtain⟨rfl,rfl⟩:g=eb/\0=bZ:=by injection lR with lR;injection lR with a1 a2;exact⟨a1,a2⟩
  obtain⟨-,y1,y2,y3,y4,y5,y6⟩:=bR (aJ _ _) rW nH hi
  simp only [iM]at y1 y2 y3 y4 y5 y6
  obtain⟨y,hy⟩:=bw (es[i].is)
  rw [hy]at y1 y2 y3 y4 y5 y6 HI O0
  obtain⟨J,E,GM⟩:∃J E,bG y x.is=(J,E):=⟨_,_,rfl⟩
  have CC:=hdd GM
  have HM:=hdd fun w'=>(by have:=ja y x.is w';rw [GM]at this;exact this :
   Calls Tryd.prog 18 #[.agg #[.int .i64 y.c, .int .i64 y.s, .int .i64 y.mi, .int .i64 y.ma, .int .i64 y.t, .int .i64 y.l], .agg #[.int .i64 x.is.c, .int .i64 x.is.s, .int .i64 x.is.mi, .int .i64 x.is.ma, .int .i64 x.is.t, .int .i64 x.is.l]] w' fun e' w5=>e' = .returned (.tuple #[.agg #[.int .i64 J.c, .int .i64 J.s, .int .i64 J.mi, .int .i64 J.ma, .int .i64 J.t, .int .i64 J.l], .int .i64 E])/\ah w' w5)
  obtain⟨-,x1,x2,x3,x4,x5,x6⟩:=HX.out _ hb1
  have GC:=fun w'=>dD (ab:=g) (aY:=0) (n:=es.length) (cap:=sc) (show (i:Int)=((i:Nat):Int) by rfl) hi w'
  simp only [iM]at GC
  have HS:=hdd fun w' (hb:ah w9 w')=>(by
   have gc:∀b o,b<w9.heap.size->w'.cell? ⟨b,o,none⟩=w9.cell? ⟨b,o,none⟩:=fun b o h=>hb.cell (p:=⟨b,o,none⟩) h
   have JV:w.heap.size<w9.heap.size:=af
   rw [gc _ _ JV,gc _ _ JV,gc _ _ JV,gc _ _ JV,gc _ _ JV,gc _ _ JV,gc _ _ S9,gc _ _ S9,gc _ _ S9,gc _ _ S9,gc _ _ S9,gc _ _ S9]
   exact⟨x1,x2,x3,x4,x5,x6,y1,y2,y3,y4,y5,y6⟩:w'.cell? ⟨w.heap.size,1,none⟩=some (.int .i64 x.is.c)/\w'.cell? ⟨w.heap.size,2,none⟩=some (.int .i64 x.is.s)/\w'.cell? ⟨w.heap.size,3,none⟩=some (.int .i64 x.is.mi)/\w'.cell? ⟨w.heap.size,4,none⟩=some (.int .i64 x.is.ma)/\w'.cell? ⟨w.heap.size,5,none⟩=some (.int .i64 x.is.t)/\w'.cell? ⟨w.heap.size,6,none⟩=some (.int .i64 x.is.l)/\w'.cell? ⟨g,i*7+1,none⟩=some (.int .i64 y.c)/\w'.cell? ⟨g,i*7+2,none⟩=some (.int .i64 y.s)/\w'.cell? ⟨g,i*7+3,none⟩=some (.int .i64 y.mi)/\w'.cell? ⟨g,i*7+4,none⟩=some (.int .i64 y.ma)/\w'.cell? ⟨g,i*7+5,none⟩=some (.int .i64 y.t)/\w'.cell? ⟨g,i*7+6,none⟩=some (.int .i64 y.l))
  have b0:ah w9 w9.drew:=(aJ _ _).drew
  have hs0:=HS.out _ b0
  clear nH h5 GM hy y1 y2 y3 y4 y5 y6 x1 x2 x3 x4 x5 x6 hkk hp hps GF K4 HX hc hk hs lR hv1 hl
  go_cut [8,9] (fun p c wx=>∃g2:Nat,p = .pointer (some ⟨g2,0,none⟩)/\c = .int .i64 E/\wx.heap[g2]?=some (.cells #[.int .i64 J.c, .int .i64 J.s, .int .i64 J.mi, .int .i64 J.ma, .int .i64 J.t, .int .i64 J.l] 42)/\w9.heap.size<=g2/\ah w9 wx)
  case first=>
   go_region_held3 (fun w'=>w'.cell? ⟨w.heap.size,1,none⟩=some (.int .i64 x.is.c)/\w'.cell? ⟨w.heap.size,2,none⟩=some (.int .i64 x.is.s)/\w'.cell? ⟨w.heap.size,3,none⟩=some (.int .i64 x.is.mi)/\w'.cell? ⟨w.heap.size,4,none⟩=some (.int .i64 x.is.ma)/\w'.cell? ⟨w.heap.size,5,none⟩=some (.int .i64 x.is.t)/\w'.cell? ⟨w.heap.size,6,none⟩=some (.int .i64 x.is.l)/\w'.cell? ⟨g,i*7+1,none⟩=some (.int .i64 y.c)/\w'.cell? ⟨g,i*7+2,none⟩=some (.int .i64 y.s)/\w'.cell? ⟨g,i*7+3,none⟩=some (.int .i64 y.mi)/\w'.cell? ⟨g,i*7+4,none⟩=some (.int .i64 y.ma)/\w'.cell? ⟨g,i*7+5,none⟩=some (.int .i64 y.t)/\w'.cell? ⟨g,i*7+6,none⟩=some (.int .i64 y.l))
    (first|with_reducible exact hs0|(with_reducible refine HS.out _ ?_;exact ag))
    (first
     |(go_at_call 18;(with_reducible refine(HM.out _).mono ?_);rintro e' w5 ⟨rfl,BE⟩;guard_hyp BE:Below w9.drew.heap.size w9.drew w5;have cx:ah w9 w5:=Below.trans' (show ah w9 _ from ag) BE (by first|omega|(simp;done)|(simp;omega)|(simp [aL];done)|(simp [aL];omega));have Mv:=cx.size)
     |(go_at_call 18;(with_reducible refine(HM.out _).mono ?_);rintro e' w5 ⟨rfl,BE⟩;obtain⟨q5,z0,z1,z2,z3,z4,z5,zf⟩:=vF BE;have cx:ah w9 w5:=Below.trans' (show ah w9 _ from ag) BE (by first|omega|(simp;done)|(simp;omega)|(simp [aL];done)|(simp [aL];omega));have Mv:=cx.size))
   all_goals
    go_wp2_with fail
    go_meet
    refine⟨_,rfl,rfl,?_,?_,?_⟩
    ·first
     |with_reducible exact aq _ _ rfl
     |with_reducible exact jO q5
    ·(first|omega|(simp;done)|(simp;omega))
    ·exact ag
  case rest=>
   obtain⟨g2,rfl,rfl,hg2,hgg,hbc⟩:=hcut
   have uD:av B wc (.slice (some ⟨g,0,none⟩) es.length sc) es:=IE.below hbc aI
   have htc:aw (fun b=>(Value.slice (some ⟨g,0,none⟩) es.length sc).ownBlock=some b) w wc:=UZ.trans (aw.of hbc aI)
   obtain⟨j0,j1,j2,j3,j4,j5,-⟩:=cG hg2
   obtain⟨-,-,-,-,-,-,o1,o2,o3,o4,o5,o6⟩:=HS.out _ hbc
   have ye:∀o,wc.frozen? ⟨g,o,none⟩=false:=World.ownsRow.frozenAt uD.row
   clear hs0 b0 hown0 hown IE UZ hbc hg2
   by_cases hcc:y.c+x.is.c<=1073741824
   ·obtain⟨rfl,rfl⟩:=Prod.mk.inj (CC.out.symm.trans (o8 O0.out hx hcc).1)
    have Yk:=hdd (HI.out.trans (ar hcc))
    generalize y.join x.is=J at *
    have Cz:=hdd (uD.set (y:=J) hi)
    rw [Bx.out]at Cz
    clear hcc CC HM HI
    go_wp2
    go_ret2
    rw [Yk.out]
    refine⟨?_,_,rfl,Cz.out,fun b hb=> .inl hb⟩
    have hgo:(Value.slice (some ⟨g,0,none⟩) es.length sc).ownBlock=some g:=rfl
    exact aw.setCell (aw.setCell (aw.setCell (aw.setCell (aw.setCell (aw.setCell htc (.inl hgo) _) (.inl hgo) _) (.inl hgo) _) (.inl hgo) _) (.inl hgo) _) (.inl hgo) _
   ·obtain⟨rfl,rfl⟩:=Prod.mk.inj (CC.out.symm.trans ((iP O0.out hx).trans (ai hcc)))
    have Yk:=hdd (HI.out.trans (ai hcc))
    clear hcc CC HM HI
    go_wp2
    go_ret2
    rw [Yk.out]
    exact⟨htc,rfl,uD⟩
end Go.Proofs.YtmljjfhgciaceaaDoor
