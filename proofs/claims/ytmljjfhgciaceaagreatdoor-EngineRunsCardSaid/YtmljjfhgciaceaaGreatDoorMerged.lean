import Derived.Test.YtmljjfhgciaceaaGreatDoorHd
import Derived.Test.YtmljjfhgciaceaaGreatDoorCz
import Derived.Test.YtmljjfhgciaceaaGreatDoorPA
import Derived.Test.YtmljjfhgciaceaaGreatDoorIG
import Derived.Test.YtmljjfhgciaceaaGreatDoorGT
import Derived.Test.YtmljjfhgciaceaaGreatDoorSR
import Derived.Test.YtmljjfhgciaceaaGreatDoorKG
namespace Go.Proofs.YtmljjfhgciaceaaGreatDoor
open Go.RowKit
set_option maxRecDepth 100000
set_option maxHeartbeats 1000000
variable {es:List aH} {B:Nat} {w:World}
def MJ (B:Nat) (w:World) (v:Value) (es:List aH) (r:Option (List aH)) (e:Ending) (w':World):Prop:=
 aA (fun b=>v.ownBlock=some b) w w'/\(match r with|none=>e = .returned (.tuple #[v,af 1])/\ay B w' v es|some l=>∃v',e = .returned (.tuple #[v',af 0])/\ay B w' v' l/\∀b,v'.ownBlock=some b->v.ownBlock=some b\/w.heap.size<=b)
theorem gT (e:aH) (R:List Value) (i j:Nat) (u:Value):(bu e++R).set ((i+1)*7+j) u=bu e++R.set (i*7+j) u:=by
 rw [show (i+1)*7+j=i*7+j+7 from by omega];rfl
theorem Jk {y:ax}:∀{es:List aH} {i:Nat} (hi:i<es),(es.set i ⟨es[i].key,y⟩).flatMap bu =
  (((((((es.flatMap bu).set (i*7+1) (af y.c)).set (i*7+2) (af y.s)).set (i*7+3) (af y.mi)).set (i*7+4) (af y.ma)).set (i*7+5) (af y.t)).set (i*7+6) (af y.l))
 |[],i,hi=>by simp at hi
 |e::es,0,_=>rfl
 |e::es,i+1,hi=>by
  have ih:=Jk (y:=y) (es:=es) (i:=i) (by simpa using hi);simp only [List.set_cons_succ,List.getElem_cons_succ,fO];rw [gT,gT,gT,gT,gT,gT,ih]
theorem ay.set {g cap:Nat} {i:Nat} {y:ax} (h:ay B w (ah g es cap) es) (hi:i<es) :
  ay B ((((((w.setCell (g,i*7+1) (af y.c)).setCell (g,i*7+2) (af y.s)).setCell (g,i*7+3) (af y.mi)).setCell (g,i*7+4) (af y.ma)).setCell (g,i*7+5) (af y.t)).setCell (g,i*7+6) (af y.l)) (ah g es cap) (es.set i ⟨es[i].key,y⟩):=by
 refine⟨?_⟩;rw [Jk hi,xx];exact(yV (yV (yV (yV (yV (yV h.row _ _).1 _ _).1 _ _).1 _ _).1 _ _).1 _ _).1
theorem xe {v:Value} {x:aH} (hown:ay B w v es) (hB:B<=w) (hlen:es.length<=100000) (hs:aY es) (hc:∀e∈es,av e.is=0) (hx:av x.is=0)
  (hk:∀e∈es,0<=e.key/\e.key<1099511627776) (hxk:0<=x.key/\x.key<1099511627776) :
  Calls Tryz.prog 111 #[v, .agg #[af x.key,af x.is.c,af x.is.s,af x.is.mi,af x.is.ma,af x.is.t,af x.is.l]] w (MJ B w v es (gJ es x)):=by
 obtain⟨so,sc,rfl⟩:=hown.isSlice;obtain⟨W0,hW0⟩:=cd (w.alloc (.cells #[af x.key,af x.is.c,af x.is.s,af x.is.mi,af x.is.ma,af x.is.t,af x.is.l] 107));have hb0:aq w W0:=by rw [hW0];exact aj
 have hz0:W0=w.heap.size+1:=by rw [hW0];simp
 have k0:W0.heap[w.heap.size]?=some (.cells #[af x.key,af x.is.c,af x.is.s,af x.is.mi,af x.is.ma,af x.is.t,af x.is.l] 107):=by rw [hW0];exact au _ _ rfl
 have hown0:ay B W0 (ah so es sc) es:=hown.below hb0 aO;have HX:=ag fun w' (hb:aq W0 w')=>(by
  have b0:w'.heap[w.heap.size]?=_:=(hb.block _ ai).trans k0;simp [World.cell?,b0]:(w',w.heap.size,0,x.key)/\(w',w.heap.size,1,x.is.c)/\(w',w.heap.size,2,x.is.s)/\(w',w.heap.size,3,x.is.mi)/\(w',w.heap.size,4,x.is.ma)/\(w',w.heap.size,5,x.is.t)/\(w',w.heap.size,6,x.is.l))
 have Ql:=ag (Gn (x:=x.key) (w:=W0) (hown0.at ai) hs (fun e he=>by have:=hk e he;omega));obtain⟨hs',LQ⟩:=bG (uG es x.key);obtain⟨ps,hps⟩:=bG (jr es x.key);rw [LQ,hps]at Ql;have hpl:ps<=es:=by rw [<-hps];exact(nJ hs).1
 obtain⟨q0,-⟩:=HX _ (aW _ _);go_enter Tryz.func111,Tryz.ntmps111;go_upto_region 1 with (fail);rw [<-hW0];clear hW0 k0
 cases hs' with
 |false=>
  have HI:=ag (Ri hs LQ);rw [hps]at HI;go_upto_region 3 with ((go_at_call 117;(with_reducible refine Ql.out.mono ?_);rintro e w1 ⟨rfl,hb1⟩));obtain⟨x0,x1,x2,x3,x4,x5,x6⟩:=HX _ hb1;have hown1:ay B w1 (ah so es sc) es:=hown0.below hb1 aO;have ht1:aA (fun b=>(ah so es sc).ownBlock=some b) w w1:=aA.of (aF hb0 hb1 hb0.size) aO;have hs1:B<=w1:=by have:=hb1.size;omega
  obtain⟨W2,hW2⟩:=cd (w1.alloc (.cells #[af x.key,af x.is.c,af x.is.s,af x.is.mi,af x.is.ma,af x.is.t,af x.is.l] 107));have DF:=ag (IM (B:=B) (w:=W2) (v:=ah so es sc) (es:=es) (i:=ps) (vb:=w1.heap.size) (x:=x) (by rw [hW2];exact hown1.alloc _) hpl (by rw [hW2];simp;omega) hlen (by rw [hW2];exact au _ _ rfl) (fun h=>by have:=(hown1.lt _ h).2;omega));have ht2:aA (fun b=>(ah so es sc).ownBlock=some b) w W2:=by rw [hW2];exact ht1.alloc _
  rw [hW2]at DF;clear hc hk hs LQ hps Ql HX;go_wp2_with ((go_at_call 121;(with_reducible refine DF.out.mono ?_);rintro e w3 ⟨v3,rfl,mC,hg3,Qb⟩))
  go_ret2
  rw [HI];have hs2:w<=W2.heap.size:=ht2.size;exact⟨aA.grown (hW2▸ht2) hg3 (fun k hk=> .inl hk),v3,rfl,mC,fun b hb=>by
   rcases Qb with h|h
   ·exact .inl (h.symm.trans hb)
   ·rw [<-hW2,hb]at h;injection h with h;exact .inr ai⟩
 |true=>
  obtain⟨i,hi,hp,hkk,-⟩:=E6 hs LQ;obtain rfl:i=ps:=hp.symm.trans hps;have HI:=ag (CB hi hs hp hkk);have Uk:=ag (hc _ (eZ hi));have ZR:=ag hkk;obtain⟨hl,⟨h0,h0'⟩|⟨g,cap,cur,hv,hBg,hg,-⟩⟩:=id hown.row
  ·omega
  injection hv with hv1 _ hv3;subst hv1 hv3;go_upto_region 4 with ((go_at_call 117;(with_reducible refine Ql.out.mono ?_);rintro e w9 ⟨rfl,hb1⟩));have I2:ay B w9 (ah g es sc) es:=hown0.below hb1 aO;have U7:aA (fun b=>(ah g es sc).ownBlock=some b) w w9:=aA.of (aF hb0 hb1 hb0.size) aO;have hs9:w+1<=w9.heap.size:=by have:=hb1.size;omega
  have Yx:g<w9:=(I2.lt g rfl).2;obtain⟨_,_,hv,-,-,-,-,h5⟩:=I2.at ai;injection hv with hv1 _ hv3;subst hv3;obtain⟨eb,cM,ll,pq,jF⟩:=h5 ai;rw [<-hv1]at ll;obtain⟨rfl,rfl⟩:g=eb/\0=cM:=by injection ll with ll;injection ll with a1 a2;exact⟨a1,a2⟩
  obtain⟨-,y1,y2,y3,y4,y5,y6⟩:=br (aW _ _) pq jF hi;simp only [iR]at y1 y2 y3 y4 y5 y6;obtain⟨y,hy⟩:=bG (es[i].is);rw [hy]at y1 y2 y3 y4 y5 y6 HI Uk;obtain⟨J,E,CW⟩:∃J E,bF y x.is=(J,E):=⟨_,_,rfl⟩;have ze:=ag CW;have HM:=ag fun w'=>(by have:=lT y x.is w';rw [CW]at this;exact this :
   Calls Tryz.prog 15 #[.agg #[af y.c,af y.s,af y.mi,af y.ma,af y.t,af y.l], .agg #[af x.is.c,af x.is.s,af x.is.mi,af x.is.ma,af x.is.t,af x.is.l]] w' fun e' w5=>e' = .returned (.tuple #[.agg #[af J.c,af J.s,af J.mi,af J.ma,af J.t,af J.l],af E])/\aq w' w5)
  obtain⟨-,x1,x2,x3,x4,x5,x6⟩:=HX _ hb1;have I6:=fun w'=>cN (ab:=g) (aR:=0) (n:=es.length) (cap:=sc) (show (i:Int)=((i:Nat):Int) by rfl) hi w';simp only [iR]at I6;have HS:=ag fun w' (hb:aq w9 w')=>(by
   have gc:∀b o,b<w9.heap.size->w'.cell? ⟨b,o,none⟩=w9.cell? ⟨b,o,none⟩:=fun b o h=>hb.cell (p:=⟨b,o,none⟩) h;have O1:w<w9.heap.size:=ai;rw [gc _ _ O1,gc _ _ O1,gc _ _ O1,gc _ _ O1,gc _ _ O1,gc _ _ O1,gc _ _ Yx,gc _ _ Yx,gc _ _ Yx,gc _ _ Yx,gc _ _ Yx,gc _ _ Yx];exact⟨x1,x2,x3,x4,x5,x6,y1,y2,y3,y4,y5,y6⟩:(w',w.heap.size,1,x.is.c)/\(w',w.heap.size,2,x.is.s)/\(w',w.heap.size,3,x.is.mi)/\(w',w.heap.size,4,x.is.ma)/\(w',w.heap.size,5,x.is.t)/\(w',w.heap.size,6,x.is.l)/\(w',g,i*7+1,y.c)/\(w',g,i*7+2,y.s)/\(w',g,i*7+3,y.mi)/\(w',g,i*7+4,y.ma)/\(w',g,i*7+5,y.t)/\(w',g,i*7+6,y.l))
  have b0:aq w9 w9.drew:=(aW _ _).drew;have hs0:=HS _ b0;clear jF h5 CW hy y1 y2 y3 y4 y5 y6 x1 x2 x3 x4 x5 x6 hkk hp hps LQ Ql HX hc hk hs ll hv1 hl;go_cut [8,9] (fun p c wx=>∃g2:Nat,p = .pointer (some (g2,0))/\c=af E/\wx.heap[g2]?=some (.cells #[af J.c,af J.s,af J.mi,af J.ma,af J.t,af J.l] 39)/\w9<=g2/\aq w9 wx)
  case first=>
   go_region_held3 (fun w'=>(w',w.heap.size,1,x.is.c)/\(w',w.heap.size,2,x.is.s)/\(w',w.heap.size,3,x.is.mi)/\(w',w.heap.size,4,x.is.ma)/\(w',w.heap.size,5,x.is.t)/\(w',w.heap.size,6,x.is.l)/\(w',g,i*7+1,y.c)/\(w',g,i*7+2,y.s)/\(w',g,i*7+3,y.mi)/\(w',g,i*7+4,y.ma)/\(w',g,i*7+5,y.t)/\(w',g,i*7+6,y.l))
    (first|with_reducible exact hs0|(with_reducible refine HS.out _ ?_;exact aj))
    (first
     |(go_at_call 15;(with_reducible refine(HM.out _).mono ?_);rintro e' w5 ⟨rfl,BE⟩;guard_hyp BE:Below w9.drew.heap.size w9.drew w5;have cy:aq w9 w5:=aF (show aq w9 _ from aj) BE dI;have LH:=cy.size)
     |(go_at_call 15;(with_reducible refine(HM.out _).mono ?_);rintro e' w5 ⟨rfl,BE⟩;obtain⟨q5,z0,z1,z2,z3,z4,z5,zf⟩:=vg BE;have cy:aq w9 w5:=aF (show aq w9 _ from aj) BE dI;have LH:=cy.size))
   all_goals
    go_wp2_with fail;go_meet;refine⟨_,rfl,rfl,?_,?_,?_⟩
    ·first
     |with_reducible exact au _ _ rfl
     |with_reducible exact jB q5
    ·(first|omega|(simp;done)|(simp;omega))
    ·exact aj
  case rest=>
   obtain⟨g2,rfl,rfl,hg2,hgg,hbc⟩:=hcut;have yo:ay B wc (ah g es sc) es:=I2.below hbc aO;have htc:aA (fun b=>(ah g es sc).ownBlock=some b) w wc:=U7.trans (aA.of hbc aO);obtain⟨j0,j1,j2,j3,j4,j5,-⟩:=cJ hg2;obtain⟨-,-,-,-,-,-,o1,o2,o3,o4,o5,o6⟩:=HS _ hbc;have zl:∀o,wc.frozen? ⟨g,o,none⟩=false:=World.ownsRow.frozenAt yo.row;clear hs0 b0 hown0 hown I2 U7 hbc hg2;by_cases hcc:y.c+x.is.c<=1073741824
   ·obtain⟨rfl,rfl⟩:=Prod.mk.inj (ze.symm.trans (qh Uk hx hcc).1);have HI':=ag (HI.trans (aw hcc));generalize y.join x.is=J at *;have Gx:=ag (yo.set (y:=J) hi);rw [ZR]at Gx;clear hcc ze HM HI;go_wp2
    go_ret2
    rw [HI'];refine⟨?_,_,rfl,Gx,fun b hb=> .inl hb⟩;have hgo:(ah g es sc).ownBlock=some g:=rfl;exact aA.setCell (aA.setCell (aA.setCell (aA.setCell (aA.setCell (aA.setCell htc (.inl hgo) _) (.inl hgo) _) (.inl hgo) _) (.inl hgo) _) (.inl hgo) _) (.inl hgo) _
   ·obtain⟨rfl,rfl⟩:=Prod.mk.inj (ze.symm.trans ((iL Uk hx).trans (ar hcc)));have HI':=ag (HI.trans (ar hcc));clear hcc ze HM HI;go_wp2
    go_ret2
    rw [HI'];exact⟨htc,rfl,yo⟩
end Go.Proofs.YtmljjfhgciaceaaGreatDoor
