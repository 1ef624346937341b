import Derived.Test.YtmljjfhgciaceaaDoorHd
import Derived.Test.YtmljjfhgciaceaaDoorEqRows
import Derived.Test.YtmljjfhgciaceaaDoorEG
import Derived.Laws.Slices
namespace Go.Proofs.YtmljjfhgciaceaaDoor
open Go.RowKit
set_option maxRecDepth 100000
set_option maxHeartbeats 4000000
variable {qs ps:List qG} {cap:Nat} {w:World}
theorem dK.drop' {α:Type} {k sz:Nat} {en:α->List Value} {xs:List α} {b off ZZ m:Nat} (h:dK k sz en w (.slice (some ⟨b,off,none⟩) xs.length cap) xs) (hm:m<=xs.length) (ho:m<xs.length->ZZ=off+m*k) :
  dK k sz en w (.slice (some ⟨b,ZZ,none⟩) (xs.length-m) (cap-m)) (xs.drop m):=by
 obtain⟨ao,c,e,h1,h2,h3,h4,h5⟩:=h
 injection e with e1 _ e3
 subst e3
 refine⟨some ⟨b,ZZ,none⟩,cap-m,by rw [oI],by rw [oI];omega,af,?_,nofun,fun h=>?_⟩
 ·rw [oI];exact ik (Nat.mul_le_mul_right _ (Nat.sub_le _ _)) h3
 ·rw [oI]at h
  obtain⟨b2,o2,e2,hlt,hc⟩:=h5 af
  rw [<-e1]at e2
  injection e2 with e2
  injection e2 with eb eo _
  subst eb eo
  refine⟨b,ZZ,rfl,hlt,fun i x hx j u hu=>?_⟩
  rw [List.getElem?_drop]at hx
  have:=hc (m+i) x hx j u hu
  rw [ho af]
  rw [Nat.add_mul]at this
  rw [show off+m*k+i*k+j=off+(m*k+i*k)+j by omega]
  exact this
theorem adi {g o n l:Nat} {i:Int} (hi:i=(l:Int)) (hl:l<=n) (W:World):(Instr.sliceAt 28 (.slice (some ⟨g,o,none⟩) n cap) (some (.int .i64 i)) none none).run Tryd.prog W = .ok (.slice (some ⟨g,if cap=l then o else o+l*8,none⟩) (n-l) (cap-l)) W:=by
 have h0:0<=i:=af
 have h1:i<=n:=af
 have h2:i.toNat=l:=af
 simp [go_sem,h0,h1,h2,sliced]
 split <;> rfl
theorem acM {W:World} {ra:Option Addr} {rc m:Nat} (h:Yt W (.slice ra qs.length rc) qs) (hm:m<=qs.length) (h0:0<qs.length):∃g o u c,ra=some ⟨g,o,none⟩ /\
  (∀(i:Int) (w:World),i=(m:Int)->(Instr.sliceAt 28 (.slice (some ⟨g,o,none⟩) qs.length rc) (some (.int .i64 i)) none none).run Tryd.prog w = .ok (.slice (some ⟨g,u,none⟩) (qs.length-m) c) w)/\Yt W (.slice (some ⟨g,u,none⟩) (qs.length-m) c) (qs.drop m):=by
 obtain⟨g,o,rfl,hc⟩:∃g o,ra=some ⟨g,o,none⟩/\qs.length<=rc:=by
  obtain⟨_,_,hv,i1,-,-,-,i5⟩:=h
  injection hv with e1 _ e3
  obtain⟨g,o,ha,-⟩:=i5 h0
  exact⟨g,o,e1.trans ha,af⟩
 exact⟨g,o,if rc=m then o else o+m*8,rc-m,rfl,fun i w hi=>adi hi hm w,dK.drop' h hm fun hl=>ai af⟩
theorem acG {p q:qG} (he:p.an=q.an) (hp:fu w p.v p.an.rows) (hq:fu w q.v q.an.rows) :
  Calls Tryd.prog 65 #[.agg p.cs, .agg q.cs] w fun e w'=>e = .returned (.bool true)/\ah w w':=by
 obtain⟨pa,po,pn,pc⟩:=p
 obtain⟨qa,qo,qn,qc⟩:=q
 obtain rfl:pa=qa:=he
 obtain⟨W0,hW0⟩:=bP ((w.alloc (.cells (qG.cs ⟨pa,po,pn,pc⟩) 45)).alloc (.cells (qG.cs ⟨pa,qo,qn,qc⟩) 45))
 have hb:ah w W0:=by rw [hW0];exact ag
 have HEQ:=hdd fun W (hw:ah W0 W)=>abQ (hp.below (Below.trans' hb hw hb.size) aH) (hq.below (Below.trans' hb hw hb.size) aH)
 have k1:W0.heap[w.heap.size]?=some (.cells (qG.cs ⟨pa,po,pn,pc⟩) 45):=by rw [hW0,kW _ _ _ bj];exact aj _ _ rfl
 have k2:W0.heap[w.heap.size+1]?=some (.cells (qG.cs ⟨pa,qo,qn,qc⟩) 45):=by rw [hW0];exact aj _ _ bj
 have HX:=hdd (fh k1)
 have HY:=hdd (fh k2)
 have HB:=hdd hb
 clear hp hq hb k1 k2
 go_enter Tryd.func65,Tryd.ntmps65
 go_upto_region 1 with (fail)
 rw [<-hW0]
 clear hW0
 obtain⟨x0,x1,x2,x3,x4,x5,x6,x7,-⟩:=HX.out
 obtain⟨y0,y1,y2,y3,y4,y5,y6,y7,-⟩:=HY.out
 go_wp2_with (go_at_call 66;(first|(with_reducible refine(HEQ.out _ (aI _ _)).mono ?_)|(with_reducible refine(HEQ.out _ (aI _ _).drew).mono ?_));rintro e w2 ⟨rfl,hb2⟩;have gI:=hdd (Below.trans' HB.out hb2 HB.out.size))
 go_ret
 exact⟨rfl,gI.out⟩
abbrev ae8:Value:= .func (.func 65) #[] #[]
theorem acn {v u:Value} (hp:Yt w v ps) (hq:Yt w u qs) (he:ps.map qG.an=qs.map qG.an) (hr:∀p∈ps,fu w p.v p.an.rows) (hr':∀p∈qs,fu w p.v p.an.rows) (h6:ps.length<=1000000) :
  Calls Tryd.prog 64 #[v,u,ae8] w fun e w'=>e = .returned (.bool true)/\ah w w':=by
 have hlen:qs.length=ps.length:=by have:=congrArg List.length he;simpa using this.symm
 obtain⟨ea,cpa,hv,q1,q2,q3,q4,q5⟩:=hp
 obtain⟨eb,cpb,hu,p1,p2,p3,p4,p5⟩:=hq
 subst hv hu
 have HLEN:=hdd hlen.symm
 (try rw [hlen]at p1);(try rw [hlen]at p2);(try rw [hlen]at p3);(try rw [hlen]at p4);(try rw [hlen]at p5);(try rw [hlen])
 clear hlen
 have HS:=hdd fun(k:Nat) (h:k<ps.length) (h':k<qs.length) (W:World) (hb:ah w W)=>acG (p:=ps[k]) (q:=qs[k]) (w:=W) (by
  have:=congrArg (fun l=>l[k]?) he
  simpa [h,h'] using this) ((hr _ (fP h)).below hb aH) ((hr' _ (fP h')).below hb aH)
 have hne:¬((ps.length:Int)≠(ps.length:Int)):=bj
 clear hr hr' he
 go_enter Tryd.func64,Tryd.ntmps64
 go_upto_region 4 with (fail)
 go_loopg [17] ps.length (fun m i wr=>∃k:Nat,k<=ps.length/\m=ps.length-k/\i = .int .i64 k/\ah w wr)
 case atStart=>exact⟨0,jd _,rfl,rfl,ag⟩
 case round=>
  obtain⟨k,hk,rfl,rfl,hb⟩:=hrel
  by_cases hlt:k<ps.length
  ·have zJ:(k:Int)<(ps.length:Int):=af
   have PV:k<qs.length:=by have:=HLEN.out;omega
   obtain⟨ab,aV,rfl,sO,ac⟩:=q5 af
   obtain⟨bb,ahh,rfl,bbb,bc⟩:=p5 af
   have HSK:=hdd (HS.out k hlt PV)
   have HBC:=hdd fun W (h:ah w W)=>K4 (w:=W) (b:=bb) (off:=ahh) (xs:=qs) (fun i x hi j u hu=>(h.cell (p:=⟨bb,_,none⟩) bbb).trans (bc i x hi j u hu)) PV
   have HAC:=hdd (K4 (w:=wr) (b:=ab) (off:=aV) (xs:=ps) (fun i x hi j u hu=>(hb.cell (p:=⟨ab,_,none⟩) sO).trans (ac i x hi j u hu)) hlt)
   obtain⟨P,hP⟩:=bt (ps[k])
   obtain⟨R,hR⟩:=bt (qs[k])
   rw [hP]at HSK HAC
   rw [hR]at HSK HBC
   have jS:=fun w'=>PE (ab:=ab) (aV:=aV) (n:=ps.length) (cap:=cpa) (show (k:Int)=((k:Nat):Int) by rfl) hlt w'
   have hiy:=fun w'=>PE (ab:=bb) (aV:=ahh) (n:=ps.length) (cap:=cpb) (show (k:Int)=((k:Nat):Int) by rfl) hlt w'
   have HB:=hdd hb
   have hz:=hb.size
   clear ac bc q5 p5 hP hR hb
   obtain⟨c0,c1,c2,c3,c4,c5,c6,c7⟩:=HAC.out
   go_upto_region 6 with (fail)
   clear c0 c1 c2 c3 c4 c5 c6 c7
   obtain⟨W2,hW2⟩:=bP (wr.alloc (.cells P.cs 45))
   have hb2:ah wr W2:=by rw [hW2];exact ag
   have k2:W2.heap[wr.heap.size]?=some (.cells P.cs 45):=by rw [hW2];exact aj _ _ rfl
   have hz2:W2.heap.size=wr.heap.size+1:=by rw [hW2];simp
   have gI:=hdd (Below.trans' HB.out hb2 HB.out.size)
   rw [<-hW2]
   clear hW2 hb2
   obtain⟨d0,d1,d2,d3,d4,d5,d6,d7⟩:=HBC.out _ gI.out
   go_upto_region 7 with (fail)
   clear d0 d1 d2 d3 d4 d5 d6 d7
   obtain⟨W3,hW3⟩:=bP (W2.alloc (.cells R.cs 45))
   have hb3:ah W2 W3:=by rw [hW3];exact ag
   have k3:W3.heap[wr.heap.size+1]?=some (.cells R.cs 45):=by rw [<-hz2,hW3];exact aj _ _ rfl
   have k4:=(hb3.block wr.heap.size af).trans k2
   have sU:=hdd (Below.trans' gI.out hb3 gI.out.size)
   rw [<-hW3]
   obtain⟨x0,x1,x2,x3,x4,x5,x6,x7,-⟩:=fh k4
   obtain⟨y0,y1,y2,y3,y4,y5,y6,y7,-⟩:=fh k3
   clear hW3 hb3 k2 k3 k4 hz2
   go_wp2_with (go_at_call 65;(first|(with_reducible refine(HSK.out _ sU.out).mono ?_)|(with_reducible refine(HSK.out _ sU.out.drew).mono ?_));rintro e w5 ⟨rfl,cu⟩;have Cc:=hdd (Below.trans' sU.out cu sU.out.size))
   go_roundg (ps.length-(k+1))
   case measure=>omega
   case rel=>exact⟨k+1,af,rfl,by go_num,Cc.out⟩
  ·obtain rfl:k=ps.length:=af
   have HB:=hdd hb
   clear hb q5 p5
   go_wp2_with fail
   go_ret
   exact⟨rfl,HB.out⟩
theorem abH {v u:Value} (hp:Yt w v ps) (hq:Yt w u qs) (he:ps.map qG.an=qs.map qG.an) (hr:∀p∈ps,fu w p.v p.an.rows) (hr':∀p∈qs,fu w p.v p.an.rows) (h6:ps.length<=1000000) :
  Calls Tryd.prog 34 #[v,u] w fun e w'=>e = .returned (.bool true)/\ah w w':=by
 have HS:=hdd (acn hp hq he hr hr' h6)
 obtain⟨ea,cpa,rfl,-⟩:=hp
 obtain⟨eb,cpb,rfl,-⟩:=hq
 clear he hr hr'
 go_enter Tryd.func34,Tryd.ntmps34
 go_wp2_with (go_at_call 64;(with_reducible refine HS.out.mono ?_);rintro e w2 ⟨rfl,hb2⟩)
 go_ret
 exact⟨rfl,ag⟩
end Go.Proofs.YtmljjfhgciaceaaDoor
