import Derived.Test.YtmljjfhgciaceaaGreatDoorHd
import Derived.Test.YtmljjfhgciaceaaGreatDoorPA
import Derived.Test.YtmljjfhgciaceaaGreatDoorIG
import Derived.Test.YtmljjfhgciaceaaGreatDoorGT
import Derived.Test.YtmljjfhgciaceaaGreatDoorSR
import Derived.Test.YtmljjfhgciaceaaGreatDoorKG
namespace Go.Proofs.YtmljjfhgciaceaaGreatDoor
open Go.RowKit
set_option maxRecDepth 100000
set_option maxHeartbeats 1000000
variable {es:List aA} {B:Nat} {w:World}
def Hw (B:Nat) (w:World) (v:Value) (es:List aA) (r:Option (List aA)) (e:Ending) (w':World):Prop:=
 aw (fun b=>v.ownBlock=some b) w w'/\(match r with|none=>e = .returned (.tuple #[v, .int .i64 1])/\au B w' v es|some l=>∃v',e = .returned (.tuple #[v', .int .i64 0])/\au B w' v' l/\∀b,v'.ownBlock=some b->v.ownBlock=some b\/w.heap.size<=b)
theorem fI (e:aA) (R:List Value) (i j:Nat) (u:Value):(bh e++R).set ((i+1)*7+j) u=bh e++R.set (i*7+j) u:=by
 rw [show (i+1)*7+j=i*7+j+7 from by omega];rfl
theorem El {y:av}:∀{es:List aA} {i:Nat} (hi:i<es.length),(es.set i ⟨es[i].key,y⟩).flatMap bh =
  (((((((es.flatMap bh).set (i*7+1) (.int .i64 y.c)).set (i*7+2) (.int .i64 y.s)).set (i*7+3) (.int .i64 y.mi)).set (i*7+4) (.int .i64 y.ma)).set (i*7+5) (.int .i64 y.t)).set (i*7+6) (.int .i64 y.l))
 |[],i,hi=>by simp at hi
 |e::es,0,_=>rfl
 |e::es,i+1,hi=>by
  have ih:=El (y:=y) (es:=es) (i:=i) (by simpa using hi)
  simp only [List.set_cons_succ,List.getElem_cons_succ,gI]
  rw [fI,fI,fI,fI,fI,fI,ih]
theorem au.set {g cap:Nat} {i:Nat} {y:av} (h:au B w (.slice (some ⟨g,0,none⟩) es.length cap) es) (hi:i<es.length) :
  au B ((((((w.setCell ⟨g,i*7+1,none⟩ (.int .i64 y.c)).setCell ⟨g,i*7+2,none⟩ (.int .i64 y.s)).setCell ⟨g,i*7+3,none⟩ (.int .i64 y.mi)).setCell ⟨g,i*7+4,none⟩ (.int .i64 y.ma)).setCell ⟨g,i*7+5,none⟩ (.int .i64 y.t)).setCell ⟨g,i*7+6,none⟩ (.int .i64 y.l)) (.slice (some ⟨g,0,none⟩) es.length cap) (es.set i ⟨es[i].key,y⟩):=by
 refine⟨?_⟩
 rw [El hi,zX]
 exact(World.ownsRow.stored (World.ownsRow.stored (World.ownsRow.stored (World.ownsRow.stored (World.ownsRow.stored (World.ownsRow.stored h.row _ _).1 _ _).1 _ _).1 _ _).1 _ _).1 _ _).1
theorem tD {v:Value} {x:aA} (hown:au B w v es) (hB:B<=w.heap.size) (hlen:es.length<=100000) (hs:aX es) (hc:∀e∈es,aj e.is=0) (hx:aj x.is=0)
  (hk:∀e∈es,0<=e.key/\e.key<1099511627776) (hxk:0<=x.key/\x.key<1099511627776) :
  Calls Tryz.prog 111 #[v, .agg #[.int .i64 x.key, .int .i64 x.is.c, .int .i64 x.is.s, .int .i64 x.is.mi, .int .i64 x.is.ma, .int .i64 x.is.t, .int .i64 x.is.l]] w (Hw B w v es (jJ es x)):=by
 obtain⟨so,sc,rfl⟩:=hown.isSlice
 obtain⟨W0,hW0⟩:=bR (w.alloc (.cells #[.int .i64 x.key, .int .i64 x.is.c, .int .i64 x.is.s, .int .i64 x.is.mi, .int .i64 x.is.ma, .int .i64 x.is.t, .int .i64 x.is.l] 107))
 have hb0:ah w W0:=by rw [hW0];exact ag
 have hz0:W0.heap.size=w.heap.size+1:=by rw [hW0];simp
 have k0:W0.heap[w.heap.size]?=some (.cells #[.int .i64 x.key, .int .i64 x.is.c, .int .i64 x.is.s, .int .i64 x.is.mi, .int .i64 x.is.ma, .int .i64 x.is.t, .int .i64 x.is.l] 107):=by rw [hW0];exact aq _ _ rfl
 have hown0:au B W0 (.slice so es.length sc) es:=hown.below hb0 aI
 have HX:=hdd fun w' (hb:ah W0 w')=>(by
  have b0:w'.heap[w.heap.size]?=_:=(hb.block _ af).trans k0
  simp [World.cell?,b0]:w'.cell? ⟨w.heap.size,0,none⟩=some (.int .i64 x.key)/\w'.cell? ⟨w.heap.size,1,none⟩=some (.int .i64 x.is.c)/\w'.cell? ⟨w.heap.size,2,none⟩=some (.int .i64 x.is.s)/\w'.cell? ⟨w.heap.size,3,none⟩=some (.int .i64 x.is.mi)/\w'.cell? ⟨w.heap.size,4,none⟩=some (.int .i64 x.is.ma)/\w'.cell? ⟨w.heap.size,5,none⟩=some (.int .i64 x.is.t)/\w'.cell? ⟨w.heap.size,6,none⟩=some (.int .i64 x.is.l))
 have K6:=hdd (Cz (x:=x.key) (w:=W0) (hown0.at af) hs (fun e he=>by have:=hk e he;omega))
 obtain⟨hs',GI⟩:=bC (rp es x.key)
 obtain⟨ps,hps⟩:=bC (ic es x.key)
 rw [GI,hps]at K6
 have hpl:ps<=es.length:=by rw [<-hps];exact(ly hs).1
 obtain⟨q0,-⟩:=HX.out _ (aL _ _)
 go_enter Tryz.func111,Tryz.ntmps111
 go_upto_region 1 with (fail)
 rw [<-hW0]
 clear hW0 k0
 cases hs' with
 |false=>
  have HI:=hdd (Ml hs GI)
  rw [hps]at HI
  go_upto_region 3 with ((go_at_call 117;(with_reducible refine K6.out.mono ?_);rintro e w1 ⟨rfl,hb1⟩))
  obtain⟨x0,x1,x2,x3,x4,x5,x6⟩:=HX.out _ hb1
  have hown1:au B w1 (.slice so es.length sc) es:=hown0.below hb1 aI
  have ht1:aw (fun b=>(Value.slice so es.length sc).ownBlock=some b) w w1:=aw.of (Below.trans' hb0 hb1 hb0.size) aI
  have hs1:B<=w1.heap.size:=by have:=hb1.size;omega
  obtain⟨W2,hW2⟩:=bR (w1.alloc (.cells #[.int .i64 x.key, .int .i64 x.is.c, .int .i64 x.is.s, .int .i64 x.is.mi, .int .i64 x.is.ma, .int .i64 x.is.t, .int .i64 x.is.l] 107))
  have Ad:=hdd (DS (B:=B) (w:=W2) (v:= .slice so es.length sc) (es:=es) (i:=ps) (vb:=w1.heap.size) (x:=x) (by rw [hW2];exact hown1.alloc _) hpl (by rw [hW2];simp;omega) hlen (by rw [hW2];exact aq _ _ rfl) (fun h=>by have:=(hown1.lt _ h).2;omega))
  have ht2:aw (fun b=>(Value.slice so es.length sc).ownBlock=some b) w W2:=by rw [hW2];exact ht1.alloc _
  rw [hW2]at Ad
  clear hc hk hs GI hps K6 HX
  go_wp2_with ((go_at_call 121;(with_reducible refine Ad.out.mono ?_);rintro e w3 ⟨v3,rfl,kW,hg3,P4⟩))
  go_ret2
  rw [HI.out]
  have hs2:w.heap.size<=W2.heap.size:=ht2.size
  exact⟨aw.grown (hW2▸ht2) hg3 (fun k hk=> .inl hk),v3,rfl,kW,fun b hb=>by
   rcases P4 with h|h
   ·exact .inl (h.symm.trans hb)
   ·rw [<-hW2,hb]at h;injection h with h;exact .inr af⟩
 |true=>
  obtain⟨i,hi,hp,hkk,-⟩:=Bn hs GI
  obtain rfl:i=ps:=hp.symm.trans hps
  have HI:=hdd (ze hi hs hp hkk)
  have O4:=hdd (hc _ (gj hi))
  have BI:=hdd hkk
  obtain⟨hl,⟨h0,h0'⟩|⟨g,cap,cur,hv,hBg,hg,-⟩⟩:=id hown.row
  ·omega
  injection hv with hv1 _ hv3
  subst hv1 hv3
  go_upto_region 4 with ((go_at_call 117;(with_reducible refine K6.out.mono ?_);rintro e w9 ⟨rfl,hb1⟩))
  have sM:au B w9 (.slice (some ⟨g,0,none⟩) es.length sc) es:=hown0.below hb1 aI
  have U8:aw (fun b=>(Value.slice (some ⟨g,0,none⟩) es.length sc).ownBlock=some b) w w9:=aw.of (Below.trans' hb0 hb1 hb0.size) aI
  have hs9:w.heap.size+1<=w9.heap.size:=by have:=hb1.size;omega
  have OD:g<w9.heap.size:=(sM.lt g rfl).2
  obtain⟨_,_,hv,-,-,-,-,h5⟩:=sM.at af
  injection hv with hv1 _ hv3
  subst hv3
  obtain⟨eb,aH,lQ,r8,nD⟩:=h5 af
  rw [<-hv1]at lQ
  obtain⟨rfl,rfl⟩:g=eb/\0=aH:=by injection lQ with lQ;injection lQ with a1 a2;exact⟨a1,a2⟩
  obtain⟨-,y1,y2,y3,y4,y5,y6⟩:=bT (aL _ _) r8 nD hi
  simp only [iX]at y1 y2 y3 y4 y5 y6
  obtain⟨y,hy⟩:=bC (es[i].is)
  rw [hy]at y1 y2 y3 y4 y5 y6 HI O4
  obtain⟨J,E,GR⟩:∃J E,bL y x.is=(J,E):=⟨_,_,rfl⟩
  have CI:=hdd GR
  have HM:=hdd fun w'=>(by have:=jb y x.is w';rw [GR]at this;exact this :
   Calls Tryz.prog 15 #[.agg #[.int .i64 y.c, .int .i64 y.s, .int .i64 y.mi, .int .i64 y.ma, .int .i64 y.t, .int .i64 y.l], .agg #[.int .i64 x.is.c, .int .i64 x.is.s, .int .i64 x.is.mi, .int .i64 x.is.ma, .int .i64 x.is.t, .int .i64 x.is.l]] w' fun e' w5=>e' = .returned (.tuple #[.agg #[.int .i64 J.c, .int .i64 J.s, .int .i64 J.mi, .int .i64 J.ma, .int .i64 J.t, .int .i64 J.l], .int .i64 E])/\ah w' w5)
  obtain⟨-,x1,x2,x3,x4,x5,x6⟩:=HX.out _ hb1
  have GG:=fun w'=>dC (ab:=g) (bp:=0) (n:=es.length) (cap:=sc) (show (i:Int)=((i:Nat):Int) by rfl) hi w'
  simp only [iX]at GG
  have HS:=hdd fun w' (hb:ah w9 w')=>(by
   have gc:∀b o,b<w9.heap.size->w'.cell? ⟨b,o,none⟩=w9.cell? ⟨b,o,none⟩:=fun b o h=>hb.cell (p:=⟨b,o,none⟩) h
   have JX:w.heap.size<w9.heap.size:=af
   rw [gc _ _ JX,gc _ _ JX,gc _ _ JX,gc _ _ JX,gc _ _ JX,gc _ _ JX,gc _ _ OD,gc _ _ OD,gc _ _ OD,gc _ _ OD,gc _ _ OD,gc _ _ OD]
   exact⟨x1,x2,x3,x4,x5,x6,y1,y2,y3,y4,y5,y6⟩:w'.cell? ⟨w.heap.size,1,none⟩=some (.int .i64 x.is.c)/\w'.cell? ⟨w.heap.size,2,none⟩=some (.int .i64 x.is.s)/\w'.cell? ⟨w.heap.size,3,none⟩=some (.int .i64 x.is.mi)/\w'.cell? ⟨w.heap.size,4,none⟩=some (.int .i64 x.is.ma)/\w'.cell? ⟨w.heap.size,5,none⟩=some (.int .i64 x.is.t)/\w'.cell? ⟨w.heap.size,6,none⟩=some (.int .i64 x.is.l)/\w'.cell? ⟨g,i*7+1,none⟩=some (.int .i64 y.c)/\w'.cell? ⟨g,i*7+2,none⟩=some (.int .i64 y.s)/\w'.cell? ⟨g,i*7+3,none⟩=some (.int .i64 y.mi)/\w'.cell? ⟨g,i*7+4,none⟩=some (.int .i64 y.ma)/\w'.cell? ⟨g,i*7+5,none⟩=some (.int .i64 y.t)/\w'.cell? ⟨g,i*7+6,none⟩=some (.int .i64 y.l))
  have b0:ah w9 w9.drew:=(aL _ _).drew
  have hs0:=HS.out _ b0
  clear nD h5 GR hy y1 y2 y3 y4 y5 y6 x1 x2 x3 x4 x5 x6 hkk hp hps GI K6 HX hc hk hs lQ hv1 hl
  go_cut [8,9] (fun p c wx=>∃g2:Nat,p = .pointer (some ⟨g2,0,none⟩)/\c = .int .i64 E/\wx.heap[g2]?=some (.cells #[.int .i64 J.c, .int .i64 J.s, .int .i64 J.mi, .int .i64 J.ma, .int .i64 J.t, .int .i64 J.l] 39)/\w9.heap.size<=g2/\ah w9 wx)
  case first=>
   go_region_held3 (fun w'=>w'.cell? ⟨w.heap.size,1,none⟩=some (.int .i64 x.is.c)/\w'.cell? ⟨w.heap.size,2,none⟩=some (.int .i64 x.is.s)/\w'.cell? ⟨w.heap.size,3,none⟩=some (.int .i64 x.is.mi)/\w'.cell? ⟨w.heap.size,4,none⟩=some (.int .i64 x.is.ma)/\w'.cell? ⟨w.heap.size,5,none⟩=some (.int .i64 x.is.t)/\w'.cell? ⟨w.heap.size,6,none⟩=some (.int .i64 x.is.l)/\w'.cell? ⟨g,i*7+1,none⟩=some (.int .i64 y.c)/\w'.cell? ⟨g,i*7+2,none⟩=some (.int .i64 y.s)/\w'.cell? ⟨g,i*7+3,none⟩=some (.int .i64 y.mi)/\w'.cell? ⟨g,i*7+4,none⟩=some (.int .i64 y.ma)/\w'.cell? ⟨g,i*7+5,none⟩=some (.int .i64 y.t)/\w'.cell? ⟨g,i*7+6,none⟩=some (.int .i64 y.l))
    (first|with_reducible exact hs0|(with_reducible refine HS.out _ ?_;exact ag))
    (first
     |(go_at_call 15;(with_reducible refine(HM.out _).mono ?_);rintro e' w5 ⟨rfl,BE⟩;guard_hyp BE:Below w9.drew.heap.size w9.drew w5;have cz:ah w9 w5:=Below.trans' (show ah w9 _ from ag) BE (by first|omega|(simp;done)|(simp;omega)|(simp [aN];done)|(simp [aN];omega));have Mx:=cz.size)
     |(go_at_call 15;(with_reducible refine(HM.out _).mono ?_);rintro e' w5 ⟨rfl,BE⟩;obtain⟨q5,z0,z1,z2,z3,z4,z5,zf⟩:=vH BE;have cz:ah w9 w5:=Below.trans' (show ah w9 _ from ag) BE (by first|omega|(simp;done)|(simp;omega)|(simp [aN];done)|(simp [aN];omega));have Mx:=cz.size))
   all_goals
    go_wp2_with fail
    go_meet
    refine⟨_,rfl,rfl,?_,?_,?_⟩
    ·first
     |with_reducible exact aq _ _ rfl
     |with_reducible exact jR q5
    ·(first|omega|(simp;done)|(simp;omega))
    ·exact ag
  case rest=>
   obtain⟨g2,rfl,rfl,hg2,hgg,hbc⟩:=hcut
   have uF:au B wc (.slice (some ⟨g,0,none⟩) es.length sc) es:=sM.below hbc aI
   have htc:aw (fun b=>(Value.slice (some ⟨g,0,none⟩) es.length sc).ownBlock=some b) w wc:=U8.trans (aw.of hbc aI)
   obtain⟨j0,j1,j2,j3,j4,j5,-⟩:=cI hg2
   obtain⟨-,-,-,-,-,-,o1,o2,o3,o4,o5,o6⟩:=HS.out _ hbc
   have yi:∀o,wc.frozen? ⟨g,o,none⟩=false:=World.ownsRow.frozenAt uF.row
   clear hs0 b0 hown0 hown sM U8 hbc hg2
   by_cases hcc:y.c+x.is.c<=1073741824
   ·obtain⟨rfl,rfl⟩:=Prod.mk.inj (CI.out.symm.trans (oU O4.out hx hcc).1)
    have Yp:=hdd (HI.out.trans (ar hcc))
    generalize y.join x.is=J at *
    have CF:=hdd (uF.set (y:=J) hi)
    rw [BI.out]at CF
    clear hcc CI HM HI
    go_wp2
    go_ret2
    rw [Yp.out]
    refine⟨?_,_,rfl,CF.out,fun b hb=> .inl hb⟩
    have hgo:(Value.slice (some ⟨g,0,none⟩) es.length sc).ownBlock=some g:=rfl
    exact aw.setCell (aw.setCell (aw.setCell (aw.setCell (aw.setCell (aw.setCell htc (.inl hgo) _) (.inl hgo) _) (.inl hgo) _) (.inl hgo) _) (.inl hgo) _) (.inl hgo) _
   ·obtain⟨rfl,rfl⟩:=Prod.mk.inj (CI.out.symm.trans ((iP O4.out hx).trans (ai hcc)))
    have Yp:=hdd (HI.out.trans (ai hcc))
    clear hcc CI HM HI
    go_wp2
    go_ret2
    rw [Yp.out]
    exact⟨htc,rfl,uF⟩
end Go.Proofs.YtmljjfhgciaceaaGreatDoor
