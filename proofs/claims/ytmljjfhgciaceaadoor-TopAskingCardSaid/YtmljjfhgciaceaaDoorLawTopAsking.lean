import Derived.Test.YtmljjfhgciaceaaDoorHd
import Derived.Test.YtmljjfhgciaceaaDoorTopW
namespace Go.Proofs.YtmljjfhgciaceaaDoor
open Go.RowKit
set_option maxRecDepth 100000
set_option maxHeartbeats 4000000
def iN (a:Ac):Bool:=decide (a.k≠2/\a.k≠3)
theorem AG {v:Value} {xs:List Rw} {w:World} (h:Ar w v xs) (hx:∀a∈xs,a.ok) (hsz:bL w) :
  Calls Tryd.prog 5 #[v] w fun e w'=>e = .returned (.bool true)/\ah w w':=by
 obtain⟨ao,cap,rfl⟩:=h.isSlice
 have HA:=hdd (show Calls Tryd.prog 12 #[.slice ao xs.length cap, .int .i64 40] w _ from vg (most:=40) h hx aW)
 have nN:=hdd hsz
 have Aw:=hdd (ve (xs:=xs) (most:=40))
 have KS:=hdd (qh (xs:=xs) (most:=40))
 clear h hx hsz
 go_enter Tryd.func5,Tryd.ntmps5
 go_upto_region 2 with (go_at_call 12;(with_reducible refine HA.out.mono ?_);rintro e w1 ⟨hb1,oa,oc,rfl,hown⟩)
 obtain⟨L,hL⟩:=bt (jh xs 40)
 rw [hL]at hown Aw KS ⊢
 have tX:=hdd hb1
 have FD:=hdd hown
 clear hL hb1 HA
 obtain⟨_,_,hv,q1,q2,q3,q4,q5⟩:=hown.at (by have:=Aw.out;omega)
 injection hv with hv1 _ hv3
 subst hv1 hv3
 clear hown
 have ag3:L.length<=40:=Aw.out
 go_upto_region 4 with (fail)
 go_loopg [4,15] L.length (fun g ov i wr=>∃k:Nat,k<=L.length/\g=L.length-k/\i = .int .i64 k/\bN w1.heap.size wr ov ((L.take k).filter iN)/\ah w1 wr)
 case atStart=>exact⟨0,jd _,rfl,rfl,bN.nil _ _,aI _ _⟩
 case round=>
  obtain⟨k,hk,rfl,rfl,ho,hb⟩:=hrel
  obtain⟨so,sc,rfl⟩:=ho.isSlice
  have Il:=hdd (show ((L.take k).filter iN).length<=40 by have h1:=sH iN (L.take k);rw [eP]at h1;omega)
  by_cases hlt:k<L.length
  ·have zJ:(k:Int)<(L.length:Int):=af
   obtain⟨ab,aV,rfl,sO,ac⟩:=q5 af
   obtain⟨c0,c1,c2,c3,c4,c5⟩:=wX (w:=wr) (b:=ab) (off:=aV) (xs:=L) (fun i x hi j u hu=>(hb.cell (p:=⟨ab,_,none⟩) sO).trans (ac i x hi j u hu)) hlt
   have htk:(L.take (k+1)).filter iN=(L.take k).filter iN++(if iN L[k]then [L[k]]else []):=by
    rw [kK hlt,rF]
    congr 1
    by_cases h1:iN L[k]=true
    ·rw [ar h1,rG h1];rfl
    ·rw [ai h1,qB h1];rfl
   obtain⟨a,ha⟩:=bt (L[k])
   rw [ha]at c0 c1 c2 c3 c4 c5 htk
   have jS:=fun w'=>CC (ab:=ab) (aV:=aV) (n:=L.length) (cap:=oc) (show (k:Int)=((k:Nat):Int) by rfl) hlt w'
   obtain⟨F,hF⟩:=bt ((L.take k).filter iN)
   rw [hF]at ho htk Il ⊢
   have sS:=hdd htk
   have HO:=hdd ho
   have HB:=hdd hb
   have HZ:=hdd hb.size
   clear hF htk ha ho hb ac q5
   go_upto_region 6 with (fail)
   obtain⟨W2,hW2⟩:=bP (wr.alloc (.cells a.cs 26))
   have hb2:ah wr W2:=by rw [hW2];exact ag
   have k2:W2.heap[wr.heap.size]?=some (.cells a.cs 26):=by rw [hW2];exact aj _ _ rfl
   obtain⟨x0,x1,x2,x3,x4,x5⟩:W2.cell? ⟨wr.heap.size,0,none⟩=some (.int .i64 a.k)/\W2.cell? ⟨wr.heap.size,1,none⟩=some (.string a.s)/\W2.cell? ⟨wr.heap.size,2,none⟩=some (.int .i64 a.t)/\W2.cell? ⟨wr.heap.size,3,none⟩=some (.int .i64 a.z)/\W2.cell? ⟨wr.heap.size,4,none⟩=some (.int .i64 a.sz)/\W2.cell? ⟨wr.heap.size,5,none⟩=some (.int .i64 a.v):=by simp [World.cell?,k2,Ac.cs]
   have wU:=hdd (HO.out.below hb2 aH)
   have gI:=hdd (Below.trans' HB.out hb2 HZ.out)
   rw [<-hW2]
   clear hW2 hb2 k2 c0 c1 c2 c3 c4 c5 jS
   by_cases h2:a.k=2
   ·have d2:(a.k != 2)=false:=by simp [h2]
    have HN:=hdd (show iN a=false by simp [iN,h2])
    clear h2
    go_wp2_with fail
    go_roundg (L.length-(k+1))
    case measure=>omega
    case rel=>exact⟨k+1,af,rfl,by go_num,by rw [sS.out,HN.out];simpa using wU.out,gI.out⟩
   ·by_cases h3:a.k=3
    ·have d2:(a.k != 2)=true:=by simp [h2]
     have d3:(a.k != 3)=false:=by simp [h3]
     have HN:=hdd (show iN a=false by simp [iN,h3])
     clear h2 h3
     go_wp2_with fail
     go_roundg (L.length-(k+1))
     case measure=>omega
     case rel=>exact⟨k+1,af,rfl,by go_num,by rw [sS.out,HN.out];simpa using wU.out,gI.out⟩
    ·have d2:(a.k != 2)=true:=by simp [h2]
     have d3:(a.k != 3)=true:=by simp [h3]
     have HN:=hdd (show iN a=true by simp [iN,h2,h3])
     have Fk:=hdd gI.out.size
     clear h2 h3
     go_wp2_with (at_builtin;refine fT rfl (.tmp 27) (.tmp 29) rfl w1.heap.size _ F rfl (wU.out.alloc _) ⟨_,0,none⟩ a rfl (fun j u h=>vz h) (by have:=Il.out;omega) (by have:=Fk.out;simp;omega) ?_;intro v4 w4 pN hg4 hv4)
     go_roundg (L.length-(k+1))
     case measure=>omega
     case rel=>exact⟨k+1,af,rfl,by go_num,by rw [sS.out,HN.out];exact pN,Below.grown (gI.out.alloc gI.out.size _) hg4 (by have:=Fk.out;simp;omega) (fun j hj=>(wU.out.lt j hj).1)⟩
  ·obtain rfl:k=L.length:=af
   have hfl:(L.take L.length).filter iN=L.filter iN:=by rw [List.take_length]
   obtain⟨F,hF⟩:=bt (L.filter iN)
   rw [hfl,hF]at ho Il ⊢
   have hrun:gK St.zero F=gK St.zero L:=by rw [<-hF];exact Dp L St.zero
   have ac0:=hdd (show ∀a∈F,a.s.size<=140737488351232 from fun a ha=>KS.out a (by rw [<-hF]at ha;exact(mn.1 ha).1))
   have je:=mF ((FD.out.below hb aH).at af) KS.out af (nN.out.below (Below.trans' tX.out hb tX.out.size))
   have K3:=hdd je
   have HO:=hdd ho
   have HB:=hdd (Below.trans' tX.out hb tX.out.size)
   have Qu:=hdd hrun
   clear hfl hF hrun je ho hb q5
   go_upto_region 10 with (go_at_call 20;(with_reducible refine K3.out.mono ?_);rintro e w2 ⟨hb2,xo,xc,rfl,Ow,hmo⟩)
   have Eo:=hmo.wH af
   have gI:=hdd (Below.trans' HB.out hb2 HB.out.size)
   have P6:=mF ((HO.out.below hb2 aH).at (by have:=Il.out;omega)) ac0.out (by have:=Il.out;omega) (nN.out.below gI.out)
   unfold C5 at P6
   rw [Qu.out]at P6
   have Zy:=hdd P6
   obtain⟨X,hX⟩:=bt ((gK St.zero L).m.bytes)
   rw [hX]at Ow Eo Zy ⊢
   have XY:=hdd Ow
   have Qy:=hdd Eo
   clear hX P6 Ow Eo hmo hb2
   go_upto_region 11 with (go_at_call 20;(with_reducible refine Zy.out.mono ?_);rintro e w3 ⟨hb3,yo,yc,rfl,QY,-⟩)
   obtain⟨g1,o1,rfl,hs1⟩:=XY.out.str Qy.out.1 Qy.out.2
   obtain⟨g2,o2,rfl,hs2⟩:=QY.str Qy.out.1 Qy.out.2
   have hs1:=hs1 w3 hb3
   have hs2:=hs2 w3 (aI _ _)
   obtain⟨S,hS⟩:=bt (strOfNums X)
   rw [hS]at hs1 hs2
   have sU:=hdd (Below.trans' gI.out hb3 gI.out.size)
   clear hS QY hb3
   go_wp2_with fail
   go_ret
   exact⟨rfl,sU.out⟩
end Go.Proofs.YtmljjfhgciaceaaDoor
