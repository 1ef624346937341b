/- Lemmas of the proof. -/
import Derived.Test.YtmljjfhgciaceaaGreatDoorHd
import Derived.Test.YtmljjfhgciaceaaGreatDoorCz
import Derived.Test.YtmljjfhgciaceaaGreatDoorEX
import Derived.Test.YtmljjfhgciaceaaGreatDoorBK
import Derived.Test.YtmljjfhgciaceaaGreatDoorPS
import Derived.Test.YtmljjfhgciaceaaGreatDoorKG
set_option maxRecDepth 100000
set_option maxHeartbeats 4000000
namespace Go.Proofs.YtmljjfhgciaceaaGreatDoor
open Go.RowKit
noncomputable def zN (b:Ba) (time:Int):List aH:=if kU b time=0 then sj b time else []
theorem Rj (n a z:Int) (w:World):Calls Tryz.prog 51 #[af n,af a,af z] w fun e w'=>e = .returned (.bool (mn n a z))/\w'=w:=(dH n a z w).mono fun _ _ h=>⟨h.1,h.2.symm⟩
theorem KZ {v:Value} {b:Ba} {time:Int} {w:World} (h:bR w v b) (hst:∀s∈b.names,s.size<=140737488351232) :
  Calls Tryz.prog 23 #[v,af time] w fun e w'=>aq w w'/\∃v,e = .returned (.tuple #[v,af (kU b time)])/\ay w w' v (zN b time):=by
 have Kf:=ag fun w' (hb:aq w w')=>rp (h.below hb) hst;have Ew:=ag fun w' (hb:aq w w')=>sy (h.below hb);obtain⟨sa,sc,g0,l0,p0,g1,l1,p1,g2,l2,p2,rfl,hn,dE,T0,T1,T2⟩:=h.open;obtain⟨W0,hW0⟩:=cd (w.alloc (.cells (aL sa b.names sc g0 l0 p0 g1 l1 p1 g2 l2 p2 b) 30));have hb0:aq w W0:=by rw [hW0];exact aj
 have hz0:W0=w.heap.size+1:=by rw [hW0];simp
 have k0:W0.heap[w.heap.size]?=some (.cells (aL sa b.names sc g0 l0 p0 g1 l1 p1 g2 l2 p2 b) 30):=by rw [hW0];exact au _ _ rfl
 have HX:=ag fun w' (hb:aq W0 w')=>(by
  have b0:w'.heap[w.heap.size]?=_:=(hb.block _ ai).trans k0;simp [World.cell?,b0] :
  w'.cell? (w,0)=some (ah sa b.names sc)/\w'.cell? (w,1)=some (ah g0 l0 p0)/\(w',w.heap.size,2,b.t0.root)/\w'.cell? (w,3)=some (ah g1 l1 p1)/\(w',w.heap.size,4,b.t1.root)/\w'.cell? (w,5)=some (ah g2 l2 p2)/\(w',w.heap.size,6,b.t2.root)/\(w',w.heap.size,7,b.floor))
 have HB:=ag fun w' (hb:aq W0 w')=>(aF hb0 hb hb0.size:aq w w');obtain⟨x0,x1,x2,x3,x4,x5,x6,x7⟩:=HX W0 (aW _ _);have mY:=ag (Kf W0 hb0);have lu:=ag fun w'=>Rj time 0 1048575 w';clear h hst dE T0 T1 T2 Kf;obtain⟨F,hF⟩:=bG (kU b time);rw [hF];by_cases hm:aS b=true
 ·rw [hm]at mY;by_cases hr:0<=time/\time<=1048575
  ·have i1:mn time 0 1048575=true:=by simp [mn];omega
   rw [i1]at lu;have m1:time.tmod 3600=time%3600:=tJ hr.1;obtain⟨M,hM⟩:=bG (time%3600);rw [hM]at m1;have m2:IntKind.i64.wrap M=M:=bI _ ai;by_cases h3:M=0
   ·have d3:(M != 0)=false:=(by simp [h3]);by_cases h4:time<b.floor
    ·have d4:decide (time<b.floor)=true:=(by simp [h4]);obtain rfl:F=8:=(by rw [<-hF];unfold kU;rw [ar (by simp [hm]),ar ai,ar ai,aw h4]);have HR:=ag (show zN b time=[] by unfold zN;rw [hF];rfl);clear hF hM h3 h4 hm i1;go_enter Tryz.func23,Tryz.ntmps23;go_upto_region 1 with (fail);rw [<-hW0];clear hW0 k0;go_wp2_with (first|(go_at_call 24;(with_reducible refine mY.out.mono ?_);rintro e w1 ⟨rfl,hb1⟩;obtain⟨y0,y1,y2,y3,y4,y5,y6,y7⟩:=HX _ hb1)|(go_at_call 51;(with_reducible refine(lu.out _).mono ?_);rintro e w2 ⟨rfl,hw2⟩;obtain rfl:=hw2.symm))
     go_ret2
     rw [HR];exact⟨HB _ hb1,_,rfl,ay.nil _ _⟩
    ·have d4:decide (time<b.floor)=false:=(by simp;omega);obtain rfl:F=0:=(by rw [<-hF];unfold kU;rw [ar (by simp [hm]),ar ai,ar ai,ar h4]);obtain⟨l,hl,-,Qa,-⟩:=fJ hm;have HR:=ag (show zN b time=l.filter (bX time) by unfold zN;rw [hF,aw rfl];unfold sj;rw [hl]);have HK:=ag fun(e:aH) (he:e∈l)=>(Qa.2.1 e he).1;have hll:l.length<=50000:=Qa.2.2;have Tn:=ag fun w' (hb:aq w w')=>(by have:=Ew w' hb;rw [hl]at this;exact this:Calls Tryz.prog 25 #[.agg (aL sa b.names sc g0 l0 p0 g1 l1 p1 g2 l2 p2 b)] w' (nX w' w' (some l)));clear hF hM h3 h4 hm i1 hl Qa Ew;go_enter Tryz.func23,Tryz.ntmps23;go_upto_region 1 with (fail);rw [<-hW0];clear hW0 k0;go_upto_region 9 with (first|(go_at_call 24;(with_reducible refine mY.out.mono ?_);rintro e w1 ⟨rfl,hb1⟩;clear x0 x1 x2 x3 x4 x5 x6 x7;obtain⟨x0,x1,x2,x3,x4,x5,x6,x7⟩:=HX _ hb1)|(go_at_call 51;(with_reducible refine(lu.out _).mono ?_);rintro e w2 ⟨rfl,hw2⟩;obtain rfl:=hw2.symm));go_upto_region 12 with (go_at_call 25;(with_reducible refine(Tn.out _ (HB.out _ hb1)).mono ?_);rintro e w5 ⟨cy,v5,rfl,fY⟩;obtain⟨s5,c5,rfl⟩:=fY.isSlice);have Pn:aq w w5:=HB _ (aF hb1 cy hb1.size);have DG:=ag (fY.at ai);clear fY x0 x1 x2 x3 x4 x5 x6 x7
     go_loopg [8,9] l (fun g out i wr=>∃j:Nat,j<=l/\g=l-j/\i=af j/\ay w5 wr out ((l.take j).filter (bX time))/\aq w5 wr)
     case atStart=>exact⟨0,eY _,rfl,rfl,ay.nil _ _,aW _ _⟩
     case round=>
      obtain⟨j,hj,rfl,rfl,hown,hb⟩:=hrel;have hzb:=hb.size;by_cases hlt:j<l
      ·obtain⟨_,_,hv,-,-,-,-,h5⟩:=DG.out;injection hv with hv1 hv2 hv3;subst hv1 hv3;clear hv2;obtain⟨eb,cM,ll,pq,jF⟩:=h5 ai;subst ll;obtain⟨y0,y1,y2,y3,y4,y5,y6⟩:=br hb pq jF hlt;have iy:=HK _ (eZ hlt);have TF:(l.take (j+1)).filter (bX time)=(l.take j).filter (bX time)++if bX time l[j]then [l[j]]else []:=by
        rw [ja hlt,qH];by_cases hy:bX time l[j]=true <;> simp [hy]
       obtain⟨y,hy⟩:=bG (l[j]);rw [hy]at y0 y1 y2 y3 y4 y5 y6 iy TF;obtain⟨N,hN⟩:=bG (y.key%1048576);have m3:y.key.tmod 1048576=N:=(by rw [tJ iy];exact hN);have m4:IntKind.i64.wrap N=N:=bI _ ai;have hyg:bX time y=decide (time<=N):=(by unfold bX;rw [hN]);have hlo:((l.take j).filter (bX time)).length<=1000000:=by
        have:=ub (bX time) (l.take j);rw [gh]at this;omega
       have jA:=fun w'=>cN (ab:=eb) (aR:=cM) (n:=l.length) (cap:=c5) (show (j:Int)=((j:Nat):Int) by rfl) hlt w';have hwz:eb<wr:=ai;obtain⟨os,hos⟩:=bG ((l.take j).filter (bX time));rw [hos]at hown hlo TF;obtain⟨so,sc2,rfl⟩:=hown.isSlice;by_cases hq:time<=N
       ·have d5:decide (time<=N)=true:=(by simp [hq]);have Ev:=ag (show (l.take (j+1)).filter (bX time)=os++[y] by rw [TF,hyg,aw d5]);clear jF h5 hy hN hos hq hyg TF;go_wp2_with ((at_builtin;refine cg rfl (.tmp 42) (.tmp 47) rfl w5 _ os rfl (hown.alloc _) ⟨_,0,none⟩ y rfl (fun j u h=>ik h) hlo dI ?_;intro v4 w4 Cl hg4;have hb4:=hg4 w5 w5 aj aO));go_roundg (l-(j+1))
        case measure=>omega
        case rel=>exact⟨j+1,ai,rfl,by go_num,by rw [Ev];exact Cl,hb4⟩
       ·have d5:decide (time<=N)=false:=(by simp [hq]);have Ev:=ag (show (l.take (j+1)).filter (bX time)=os by rw [TF,hyg,d5];simp);clear jF h5 hy hN hos hq hyg TF;go_wp2;go_roundg (l-(j+1))
        case measure=>omega
        case rel=>exact⟨j+1,ai,rfl,by go_num,by rw [Ev];exact hown,hb⟩
      ·have hall:l.take j=l:=iM ai;rw [hall]at hown;clear hall;go_wp2
       go_ret2
       rw [HR];exact⟨aF Pn hb Pn.size,_,rfl,hown.mono Pn.size⟩
   ·have d3:(M != 0)=true:=(by simp [h3]);obtain rfl:F=4:=(by rw [<-hF];unfold kU;rw [ar (by simp [hm]),ar ai,aw ai]);have HR:=ag (show zN b time=[] by unfold zN;rw [hF];rfl);clear hF hM h3 hm i1;go_enter Tryz.func23,Tryz.ntmps23;go_upto_region 1 with (fail);rw [<-hW0];clear hW0 k0;go_wp2_with (first|(go_at_call 24;(with_reducible refine mY.out.mono ?_);rintro e w1 ⟨rfl,hb1⟩)|(go_at_call 51;(with_reducible refine(lu.out _).mono ?_);rintro e w2 ⟨rfl,hw2⟩;obtain rfl:=hw2.symm))
    go_ret2
    rw [HR];exact⟨HB _ hb1,_,rfl,ay.nil _ _⟩
  ·have i1:mn time 0 1048575=false:=by simp [mn];omega
   rw [i1]at lu;obtain rfl:F=2:=by rw [<-hF];unfold kU;rw [ar (by simp [hm]),aw hr]
   have HR:=ag (show zN b time=[] by unfold zN;rw [hF];rfl);clear hF hm i1 hr;go_enter Tryz.func23,Tryz.ntmps23;go_upto_region 1 with (fail);rw [<-hW0];clear hW0 k0;go_wp2_with (first|(go_at_call 24;(with_reducible refine mY.out.mono ?_);rintro e w1 ⟨rfl,hb1⟩)|(go_at_call 51;(with_reducible refine(lu.out _).mono ?_);rintro e w2 ⟨rfl,hw2⟩;obtain rfl:=hw2.symm))
   go_ret2
   rw [HR];exact⟨HB _ hb1,_,rfl,ay.nil _ _⟩
 ·have hm:aS b=false:=by simpa using hm
  rw [hm]at mY;obtain rfl:F=7:=by rw [<-hF];unfold kU;rw [aw hm]
  have HR:=ag (show zN b time=[] by unfold zN;rw [hF];rfl);clear hF hm;go_enter Tryz.func23,Tryz.ntmps23;go_upto_region 1 with (fail);rw [<-hW0];clear hW0 k0;go_wp2_with (go_at_call 24;(with_reducible refine mY.out.mono ?_);rintro e w1 ⟨rfl,hb1⟩)
  go_ret2
  rw [HR];exact⟨HB _ hb1,_,rfl,ay.nil _ _⟩
end Go.Proofs.YtmljjfhgciaceaaGreatDoor
