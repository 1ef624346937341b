import Derived.Test.YtmljjfhgciaceaaDoorHd
import Derived.Test.YtmljjfhgciaceaaDoorBK
import Derived.BigQuiet
import Derived.Deep.QuietTactic
namespace Go.Proofs.YtmljjfhgciaceaaDoor
open Go.RowKit
set_option maxRecDepth 100000
set_option maxHeartbeats 1000000
theorem afH {w wr:World} {b off k:Nat} {xs:List ByteArray} (hb:ah w wr) (hbb:b<w.heap.size)
  (hc:∀(i:Nat) x,xs[i]?=some x->∀j u,(jg x)[j]?=some u->w.cell? ⟨b,off+i*1+j,none⟩=some u) (hk:k<xs.length):wr.cell? ⟨b,off+k,none⟩=some (.string xs[k]):=by
 have:=hc k xs[k] (by simp [hk]) 0 _ rfl
 rw [Nat.mul_one,Nat.add_zero]at this
 exact(hb.cell (p:=⟨b,off+k,none⟩) hbb).trans this
theorem ahT {va vb:Value} {b:Ba} {w:World} (ha:bO w va b) (hb:bO w vb b) :
  Calls Tryd.prog 24 #[va,vb] w fun e w'=>e = .returned (.bool true)/\ah w w':=by
 obtain⟨nv,a0,a1,a2,rfl,A1,an0,an1,an2⟩:=ha
 obtain⟨nw,b0,b1,b2,rfl,NM,bn0,bn1,bn2⟩:=hb
 obtain⟨sa,sc,rfl⟩:=A1.isSlice
 obtain⟨sb,sd,rfl⟩:=NM.isSlice
 obtain⟨g0,l0,p0,rfl⟩:=aa9 an0
 obtain⟨g1,l1,p1,rfl⟩:=aa9 an1
 obtain⟨g2,l2,p2,rfl⟩:=aa9 an2
 obtain⟨h0,m0,q0,rfl⟩:=aa9 bn0
 obtain⟨h1,m1,q1,rfl⟩:=aa9 bn1
 obtain⟨h2,m2,q2,rfl⟩:=aa9 bn2
 obtain⟨W0,hW0⟩:=bP ((w.alloc (.cells #[.slice sa b.names.length sc, .slice g0 l0 p0, .int .i64 b.t0.root, .slice g1 l1 p1, .int .i64 b.t1.root, .slice g2 l2 p2, .int .i64 b.t2.root, .int .i64 b.floor] 35)).alloc (.cells #[.slice sb b.names.length sd, .slice h0 m0 q0, .int .i64 b.t0.root, .slice h1 m1 q1, .int .i64 b.t1.root, .slice h2 m2 q2, .int .i64 b.t2.root, .int .i64 b.floor] 35))
 have hb0:ah w W0:=by rw [hW0];exact(by repeat (first|with_reducible exact aI _ _|with_reducible assumption|with_reducible refine cJ ?_ _|with_reducible refine Below.drew ?_|with_reducible refine Below.alloc ?_ (by first|omega|(simp;done)|(simp;omega)) _|with_reducible refine Below.setCell ?_ (by first|omega|(simp;done)|(simp;omega)) _))
 have hz0:W0.heap.size=w.heap.size+2:=by rw [hW0];simp
 have k0:W0.heap[w.heap.size]?=some (.cells #[.slice sa b.names.length sc, .slice g0 l0 p0, .int .i64 b.t0.root, .slice g1 l1 p1, .int .i64 b.t1.root, .slice g2 l2 p2, .int .i64 b.t2.root, .int .i64 b.floor] 35):=by
  rw [hW0,kW _ _ _ bj];exact aj _ _ rfl
 have k1:W0.heap[w.heap.size+1]?=some (.cells #[.slice sb b.names.length sd, .slice h0 m0 q0, .int .i64 b.t0.root, .slice h1 m1 q1, .int .i64 b.t1.root, .slice h2 m2 q2, .int .i64 b.t2.root, .int .i64 b.floor] 35):=by
  rw [hW0];exact aj _ _ bj
 have HA:=hdd fun w' (h:ah W0 w')=>(by
  have b0:w'.heap[w.heap.size]?=_:=(h.block _ af).trans k0
  simp [World.cell?,b0]:w'.cell? ⟨w.heap.size,0,none⟩=some (.slice sa b.names.length sc)/\w'.cell? ⟨w.heap.size,1,none⟩=some (.slice g0 l0 p0)/\w'.cell? ⟨w.heap.size,2,none⟩=some (.int .i64 b.t0.root)/\w'.cell? ⟨w.heap.size,3,none⟩=some (.slice g1 l1 p1)/\w'.cell? ⟨w.heap.size,4,none⟩=some (.int .i64 b.t1.root)/\w'.cell? ⟨w.heap.size,5,none⟩=some (.slice g2 l2 p2)/\w'.cell? ⟨w.heap.size,6,none⟩=some (.int .i64 b.t2.root)/\w'.cell? ⟨w.heap.size,7,none⟩=some (.int .i64 b.floor))
 have HB:=hdd fun w' (h:ah W0 w')=>(by
  have b0:w'.heap[w.heap.size+1]?=_:=(h.block _ af).trans k1
  simp [World.cell?,b0]:w'.cell? ⟨w.heap.size+1,0,none⟩=some (.slice sb b.names.length sd)/\w'.cell? ⟨w.heap.size+1,1,none⟩=some (.slice h0 m0 q0)/\w'.cell? ⟨w.heap.size+1,2,none⟩=some (.int .i64 b.t0.root)/\w'.cell? ⟨w.heap.size+1,3,none⟩=some (.slice h1 m1 q1)/\w'.cell? ⟨w.heap.size+1,4,none⟩=some (.int .i64 b.t1.root)/\w'.cell? ⟨w.heap.size+1,5,none⟩=some (.slice h2 m2 q2)/\w'.cell? ⟨w.heap.size+1,6,none⟩=some (.int .i64 b.t2.root)/\w'.cell? ⟨w.heap.size+1,7,none⟩=some (.int .i64 b.floor))
 have HW:=hdd fun w' (h:ah W0 w')=>(Below.trans' hb0 h hb0.size:ah w w')
 have HS:=hdd fun w' (h:ah W0 w') (x y:Value) (hxy:(x = .agg #[.slice g0 l0 p0, .int .i64 b.t0.root]/\y = .agg #[.slice h0 m0 q0, .int .i64 b.t0.root])\/(x = .agg #[.slice g1 l1 p1, .int .i64 b.t1.root]/\y = .agg #[.slice h1 m1 q1, .int .i64 b.t1.root])\/(x = .agg #[.slice g2 l2 p2, .int .i64 b.t2.root]/\y = .agg #[.slice h2 m2 q2, .int .i64 b.t2.root]))=>(by
  have hb':=HW.out w' h
  rcases hxy with ⟨rfl,rfl⟩|⟨rfl,rfl⟩|⟨rfl,rfl⟩
  ·exact ae4 (an0.below hb' aH) (bn0.below hb' aH)
  ·exact ae4 (an1.below hb' aH) (bn1.below hb' aH)
  ·exact ae4 (an2.below hb' aH) (bn2.below hb' aH) :
  Calls Tryd.prog 51 #[x,y] w' fun e w''=>e = .returned (.bool true)/\ah w' w'')
 have HAS:=hdd A1
 have UH:=hdd NM
 have b00:=aI W0.heap.size W0
 obtain⟨_,_,_,_,_,ag5,_⟩:=id A1
 clear A1 NM an0 an1 an2 bn0 bn1 bn2
 obtain⟨c0,c1,c2,c3,c4,c5,c6,c7⟩:=HA.out _ b00
 obtain⟨d0,d1,d2,d3,d4,d5,d6,d7⟩:=HB.out _ b00
 go_enter Tryd.func24,Tryd.ntmps24
 go_upto_region 1 with (fail)
 rw [<-hW0]
 clear hW0 k0 k1
 go_wp2_with fail
 clear c0 c1 c2 c3 c4 c5 c6 c7 d0 d1 d2 d3 d4 d5 d6 d7
 go_loopg [5] b.names.length (fun g i wr=>∃k:Nat,k<=b.names.length/\g=b.names.length-k/\i = .int .i64 k/\Hid (ah W0 wr))
 case atStart=>exact⟨0,jd _,rfl,rfl,hdd b00⟩
 case round=>
  obtain⟨k,hk,rfl,rfl,vp⟩:=hrel
  obtain⟨c0,c1,c2,c3,c4,c5,c6,c7⟩:=HA.out _ vp.out
  obtain⟨d0,d1,d2,d3,d4,d5,d6,d7⟩:=HB.out _ vp.out
  by_cases hlt:k<b.names.length
  ·obtain⟨_,_,va,-,-,-,-,a5⟩:=HAS.out
   obtain⟨_,_,vb,-,-,-,-,b5⟩:=UH.out
   obtain⟨ab,aV,ha,sO,ac⟩:=a5 af
   obtain⟨bb,ahh,hb',ub,bc⟩:=b5 af
   injection va with ZF _ ZE
   injection vb with vb1 _ Mo
   subst ZF ZE vb1 Mo ha hb'
   have e0:=afH (HW.out _ vp.out) sO ac hlt
   have e1:=afH (HW.out _ vp.out) ub bc hlt
   obtain⟨s,hs⟩:=bt (b.names[k])
   rw [hs]at e0 e1
   clear hs a5 b5 ac bc
   have xB:∀w',(binOp .neq 9 (.string s) (.string s)).run Tryd.prog w' = .ok (.bool false) w':=fun w'=>by go_simp
   go_wp2_with fail
   go_quiet (fail)
   go_wp2
   go_roundg (b.names.length-(k+1))
   case measure=>omega
   case rel=>exact⟨k+1,af,rfl,by go_num,hdd (by have:=vp.out;exact(by repeat (first|with_reducible exact aI _ _|with_reducible assumption|with_reducible refine cJ ?_ _|with_reducible refine Below.drew ?_|with_reducible refine Below.alloc ?_ (by first|omega|(simp;done)|(simp;omega)) _|with_reducible refine Below.setCell ?_ (by first|omega|(simp;done)|(simp;omega)) _)))⟩
  ·go_wp2_with (first
    |(go_at_call 51;(with_reducible refine(HS.out wr vp.out _ _ (.inl ⟨rfl,rfl⟩)).mono ?_);rintro e w1 ⟨rfl,hb1⟩;have ya:=Below.trans' vp.out hb1 vp.out.size;have hz1:=hb1.size;obtain⟨c0',c1',c2',c3',c4',c5',c6',c7'⟩:=HA.out _ ya;obtain⟨d0',d1',d2',d3',d4',d5',d6',d7'⟩:=HB.out _ ya)
    |(go_at_call 51;(with_reducible refine(HS.out w1 ya _ _ (.inr (.inl ⟨rfl,rfl⟩))).mono ?_);rintro e w2 ⟨rfl,hb2⟩;have xd:=Below.trans' ya hb2 ya.size;obtain⟨aqo,aqn,aqm,aql,aqk,aqj,aqi,aqh⟩:=HA.out _ xd;obtain⟨aqf,aqe,aqd,aqc,aqb,aqa,aq9,aq8⟩:=HB.out _ xd)
    |(go_at_call 51;(with_reducible refine(HS.out w2 xd _ _ (.inr (.inr ⟨rfl,rfl⟩))).mono ?_);rintro e w3 ⟨rfl,hb3⟩;have bw3:=Below.trans' xd hb3 xd.size))
   go_ret
   exact⟨rfl,HW.out _ bw3⟩
end Go.Proofs.YtmljjfhgciaceaaDoor
