import Derived.Test.YtmljjfhgciaceaaDoorHd
import Derived.Test.YtmljjfhgciaceaaDoorTopW
import Derived.Test.YtmljjfhgciaceaaDoorConcat
namespace Go.Proofs.YtmljjfhgciaceaaDoor
open Go.RowKit
set_option maxRecDepth 100000
set_option maxHeartbeats 4000000
def fI (a:Ac):Bool:=decide (a.k≠5/\a.k≠6)
def YC:Ac:=⟨5,⟨#[]⟩,0,0,0,0⟩
def QP:Ac:=⟨6,⟨#[]⟩,0,0,0,0⟩
theorem De {v u:Value} {xs ys:List Rw} {w:World} (h:Ar w v xs) (hx:∀a∈xs,a.ok) (h':Ar w u ys) (hy:∀a∈ys,a.ok) (hsz:bL w) :
  Calls Tryd.prog 10 #[v,u] w fun e w'=>e = .returned (.bool true)/\ah w w':=by
 obtain⟨ao,cap,rfl⟩:=h.isSlice
 have HA:=hdd (show Calls Tryd.prog 12 #[.slice ao xs.length cap, .int .i64 30] w _ from vg (most:=30) h hx aW)
 have HA':=hdd fun W (hb:ah w W)=>(show Calls Tryd.prog 12 #[u, .int .i64 30] W _ from vg (most:=30) (h'.below hb aH) hy aW)
 obtain⟨bo,bp,rfl⟩:=h'.isSlice
 have nN:=hdd hsz
 have X4:=hdd (ve (xs:=xs) (most:=30))
 have ac1:=hdd (qh (xs:=xs) (most:=30))
 have Aw:=hdd (ve (xs:=ys) (most:=30))
 have KS:=hdd (qh (xs:=ys) (most:=30))
 clear h hx hsz h' hy
 go_enter Tryd.func10,Tryd.ntmps10
 go_upto_region 2 with (first
  |(go_at_call 12;(with_reducible refine HA.out.mono ?_);rintro e w1 ⟨hb1,oa,oc,rfl,hown⟩;have tX:=hdd hb1;have FD:=hdd hown;clear hown;have aaJ:=X4.out)
  |(at_builtin;refine fT rfl (.tmp 14) (.tmp 16) rfl w.heap.size _ (jh xs 30) rfl (FD.out.alloc _) ⟨_,0,none⟩ YC rfl (fun j u h=>vz (p:=YC) h) af (by have:=tX.out.size;simp;omega) ?_;intro v4 w4 pN hg4 hv4))
 obtain⟨A,hA⟩:=bt (jh xs 30++[YC])
 rw [hA]at pN
 obtain⟨ra,ca,rfl⟩:=pN.isSlice
 have UJ:=hdd hA
 have lA:A.length<=31:=by rw [<-hA,dO];simp;exact X4.out
 have Zk:=hdd pN
 have wV:=hdd (show ah w w4 from Below.grown (tX.out.alloc tX.out.size _) hg4 (by have:=tX.out.size;simp;omega) (fun j hj=>(FD.out.lt j hj).1))
 clear hA pN hg4 hv4 tX FD aaJ
 go_upto_region 4 with (go_at_call 12;(with_reducible refine(HA'.out _ wV.out).mono ?_);rintro e w5 ⟨cu,oa,oc,rfl,hown⟩)
 obtain⟨L,hL⟩:=bt (jh ys 30)
 rw [hL]at hown Aw KS ⊢
 have Cc:=hdd (Below.trans' wV.out cu wV.out.size)
 have Yl:=hdd cu
 have HZ5:=hdd cu.size
 have Zl:=hdd hown
 clear hL cu HA HA'
 obtain⟨_,_,hv,q1,q2,q3,q4,q5⟩:=hown.at (by have:=Aw.out;omega)
 injection hv with hv1 _ hv3
 subst hv1 hv3
 clear hown
 have adu:L.length<=30:=Aw.out
 go_upto_region 4 with (fail)
 go_loopg [6,21] L.length (fun g ov i wr=>∃k:Nat,k<=L.length/\g=L.length-k/\i = .int .i64 k/\bN w5.heap.size wr ov ((L.take k).filter fI)/\ah w5 wr)
 case atStart=>exact⟨0,jd _,rfl,rfl,bN.nil _ _,aI _ _⟩
 case round=>
  obtain⟨k,hk,rfl,rfl,ho,hb⟩:=hrel
  obtain⟨so,sc,rfl⟩:=ho.isSlice
  have Il:=hdd (show ((L.take k).filter fI).length<=30 by have h1:=sH fI (L.take k);rw [eP]at h1;omega)
  by_cases hlt:k<L.length
  ·have zJ:(k:Int)<(L.length:Int):=af
   obtain⟨ab,aV,rfl,sO,ac⟩:=q5 af
   obtain⟨c0,c1,c2,c3,c4,c5⟩:=wX (w:=wr) (b:=ab) (off:=aV) (xs:=L) (fun i x hi j u hu=>(hb.cell (p:=⟨ab,_,none⟩) sO).trans (ac i x hi j u hu)) hlt
   have htk:(L.take (k+1)).filter fI=(L.take k).filter fI++(if fI L[k]then [L[k]]else []):=by
    rw [kK hlt,rF]
    congr 1
    by_cases h1:fI L[k]=true
    ·rw [ar h1,rG h1];rfl
    ·rw [ai h1,qB h1];rfl
   obtain⟨a,ha⟩:=bt (L[k])
   rw [ha]at c0 c1 c2 c3 c4 c5 htk
   have jS:=fun w'=>CC (ab:=ab) (aV:=aV) (n:=L.length) (cap:=oc) (show (k:Int)=((k:Nat):Int) by rfl) hlt w'
   obtain⟨F,hF⟩:=bt ((L.take k).filter fI)
   rw [hF]at ho htk Il ⊢
   have sS:=hdd htk
   have HO:=hdd ho
   have HB:=hdd hb
   have HZ:=hdd hb.size
   clear hF htk ha ho hb ac q5
   go_upto_region 6 with (fail)
   obtain⟨W2,hW2⟩:=bP (wr.alloc (.cells a.cs 26))
   have hb2:ah wr W2:=by rw [hW2];exact ag
   have k2:W2.heap[wr.heap.size]?=some (.cells a.cs 26):=by rw [hW2];exact aj _ _ rfl
   obtain⟨x0,x1,x2,x3,x4,x5⟩:W2.cell? ⟨wr.heap.size,0,none⟩=some (.int .i64 a.k)/\W2.cell? ⟨wr.heap.size,1,none⟩=some (.string a.s)/\W2.cell? ⟨wr.heap.size,2,none⟩=some (.int .i64 a.t)/\W2.cell? ⟨wr.heap.size,3,none⟩=some (.int .i64 a.z)/\W2.cell? ⟨wr.heap.size,4,none⟩=some (.int .i64 a.sz)/\W2.cell? ⟨wr.heap.size,5,none⟩=some (.int .i64 a.v):=by simp [World.cell?,k2,Ac.cs]
   have wU:=hdd (HO.out.below hb2 aH)
   have gI:=hdd (Below.trans' HB.out hb2 HZ.out)
   rw [<-hW2]
   clear hW2 hb2 k2 c0 c1 c2 c3 c4 c5 jS
   by_cases h2:a.k=5
   ·have d2:(a.k != 5)=false:=by simp [h2]
    have HN:=hdd (show fI a=false by simp [fI,h2])
    clear h2
    go_wp2_with fail
    go_roundg (L.length-(k+1))
    case measure=>omega
    case rel=>exact⟨k+1,af,rfl,by go_num,by rw [sS.out,HN.out];simpa using wU.out,gI.out⟩
   ·by_cases h3:a.k=6
    ·have d2:(a.k != 5)=true:=by simp [h2]
     have d3:(a.k != 6)=false:=by simp [h3]
     have HN:=hdd (show fI a=false by simp [fI,h3])
     clear h2 h3
     go_wp2_with fail
     go_roundg (L.length-(k+1))
     case measure=>omega
     case rel=>exact⟨k+1,af,rfl,by go_num,by rw [sS.out,HN.out];simpa using wU.out,gI.out⟩
    ·have d2:(a.k != 5)=true:=by simp [h2]
     have d3:(a.k != 6)=true:=by simp [h3]
     have HN:=hdd (show fI a=true by simp [fI,h2,h3])
     have Fk:=hdd gI.out.size
     clear h2 h3
     go_wp2_with (at_builtin;refine fT rfl (.tmp 33) (.tmp 35) rfl w5.heap.size _ F rfl (wU.out.alloc _) ⟨_,0,none⟩ a rfl (fun j u h=>vz h) (by have:=Il.out;omega) (by have:=Fk.out;simp;omega) ?_;intro v4 w4 pN hg4 hv4)
     go_roundg (L.length-(k+1))
     case measure=>omega
     case rel=>exact⟨k+1,af,rfl,by go_num,by rw [sS.out,HN.out];exact pN,Below.grown (gI.out.alloc gI.out.size _) hg4 (by have:=Fk.out;simp;omega) (fun j hj=>(wU.out.lt j hj).1)⟩
  ·obtain rfl:k=L.length:=af
   have hfl:(L.take L.length).filter fI=L.filter fI:=by rw [List.take_length]
   obtain⟨F,hF⟩:=bt (L.filter fI)
   rw [hfl,hF]at ho Il ⊢
   have hrun:(gK St.zero ([A,F,[QP]].flatten)).m=(gK St.zero A).m:=by
    have:=Lp (jh xs 30) F (sv:=YC) (ld:=QP) rfl rfl (fun c hc=>by
     rw [<-hF]at hc
     have:=(mn.1 hc).2
     simp only [fI,yi]at this
     exact this.1) St.zero
    rw [UJ.out]at this
    rw [<-this]
    simp
   have hsA:∀a∈A,a.s.size<=140737488351232:=fun a ha=>by
    rw [<-UJ.out]at ha
    rcases kJ.1 ha with ha|ha
    ·exact ac1.out a ha
    ·rw [mR.1 ha];decide
   have hsF:∀a∈[A,F,[QP]].flatten,a.s.size<=140737488351232:=fun a ha=>by
    simp only [List.flatten_cons,List.flatten_nil,oL,kJ,mR]at ha
    rcases ha with ha|ha|ha
    ·exact hsA a ha
    ·rw [<-hF]at ha;exact KS.out a (mn.1 ha).1
    ·rw [ha];decide
   have hlC:[A,F,[QP]].flatten.length<=500:=by
    simp only [List.flatten_cons,List.flatten_nil,oL,dO,List.length_singleton]
    have:=Il.out;omega
   have Tu:ah w4 wr:=Below.trans' Yl.out hb Yl.out.size
   have XZ:=hdd (Zk.out.below Tu aH)
   have HO:=hdd ho
   have HB:=hdd (Below.trans' wV.out Tu wV.out.size)
   have K3:=hdd (mF (XZ.out.at af) hsA af (nN.out.below HB.out))
   have Qu:=hdd hrun
   have HSF:=hdd hsF
   have HLC:=hdd hlC
   clear hfl hF hrun ho hb Tu hsA hsF hlC q5
   go_upto_region 10 with (go_at_call 20;(with_reducible refine K3.out.mono ?_);rintro e w2 ⟨hb2,xo,xc,rfl,Ow,hmo⟩)
   have Eo:=hmo.wH af
   have gI:=hdd (Below.trans' HB.out hb2 HB.out.size)
   obtain⟨X,hX⟩:=bt ((gK St.zero A).m.bytes)
   rw [hX]at Ow Eo ⊢
   have HX:=hdd hX
   have XY:=hdd Ow
   have Qy:=hdd Eo
   have acb:=hdd (XZ.out.below hb2 aH)
   have wU:=hdd (HO.out.below hb2 aH)
   clear hX Ow Eo hmo hb2
   obtain⟨W4,BM⟩:=bP (((w2.alloc (.cells #[.int .i64 6, .string ⟨#[]⟩, .int .i64 0, .int .i64 0, .int .i64 0, .int .i64 0] 26)).alloc (.cells #[.slice ra A.length ca, .slice so F.length sc, .slice (some ⟨w2.heap.size,0,none⟩) 1 1] 23)))
   have hb4:ah w2 W4:=by rw [BM];exact ag
   have hk1:W4.heap[w2.heap.size]?=some (.cells QP.cs 26):=by rw [BM,kW _ _ _ bj];exact aj _ _ rfl
   have hk2:W4.heap[w2.heap.size+1]?=some (.cells #[.slice ra A.length ca, .slice so F.length sc, .slice (some ⟨w2.heap.size,0,none⟩) 1 1] 23):=by rw [BM];exact aj _ _ bj
   have HCC:=hdd (show Calls Tryd.prog 35 #[.slice (some ⟨w2.heap.size+1,0,none⟩) 3 3] W4 _ from Hs (B:=w.heap.size) (cap:=3) (vs:=[.slice ra A.length ca, .slice so F.length sc, .slice (some ⟨w2.heap.size,0,none⟩) 1 1]) (Ls:=[A,F,[QP]]) hk2 rfl (show 3<=4 by decide) (fun k h h'=>by
    rcases k with _|_|_|k
    ·exact acb.out.below hb4 aH
    ·exact(wU.out.below hb4 aH).mono Cc.out.size
    ·exact⟨⟨rfl, .inr ⟨w2.heap.size,1,QP.cs,rfl,gI.out.size,hk1,km _,aW,rfl,rfl⟩⟩⟩
    ·simp at h;omega) (fun l hl=>by
    simp only [fk,List.not_mem_nil,or_false]at hl
    have:=Il.out
    rcases hl with rfl|rfl|rfl
    ·omega
    ·omega
    ·decide))
   obtain⟨C,hC⟩:=bt ([A,F,[QP]].flatten)
   rw [hC]at HCC Qu HSF HLC
   have Ym:=hdd hb4
   clear hb4 hk1 hk2 hC
   go_upto_region 11 with (first
    |(rw [<-BM];go_at_call 35;(with_reducible refine HCC.out.mono ?_);rintro e w6 ⟨jf,co,cc,rfl,hoc⟩;have pA:=hdd (Below.trans' Ym.out jf Ym.out.size);have P6:=mF (hoc.at (by have:=HLC.out;omega)) HSF.out HLC.out (nN.out.below (Below.trans' gI.out pA.out gI.out.size));unfold C5 at P6;rw [Qu.out,HX.out]at P6;have Zy:=hdd P6;clear P6 hoc jf)
    |(go_at_call 20;(with_reducible refine Zy.out.mono ?_);rintro e w3 ⟨hb3,yo,yc,rfl,QY,-⟩))
   obtain⟨g1,o1,rfl,hs1⟩:=XY.out.str Qy.out.1 Qy.out.2
   obtain⟨g2,o2,rfl,hs2⟩:=QY.str Qy.out.1 Qy.out.2
   have hs1:=hs1 w3 (Below.trans' pA.out hb3 pA.out.size)
   have hs2:=hs2 w3 (aI _ _)
   obtain⟨S,hS⟩:=bt (strOfNums X)
   rw [hS]at hs1 hs2
   have sU:=hdd (Below.trans' gI.out (Below.trans' pA.out hb3 pA.out.size) gI.out.size)
   clear hS QY hb3
   go_wp2_with fail
   go_ret
   exact⟨rfl,sU.out⟩
end Go.Proofs.YtmljjfhgciaceaaDoor
