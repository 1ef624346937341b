import Derived.Test.YtmljjfhgciaceaaDoorHd
import Derived.Test.YtmljjfhgciaceaaDoorTopW
import Derived.Test.YtmljjfhgciaceaaDoorTopR
import Derived.Test.YtmljjfhgciaceaaDoorKB
namespace Go.Proofs.YtmljjfhgciaceaaDoor
open Go.RowKit
set_option maxRecDepth 100000
set_option maxHeartbeats 4000000
variable {cap:Nat} {ao:Option Addr} {w:World}
theorem aas {n m:Int} (hn:i64 n) (hm:1<=m) (hm2:m<=9223372036854775807) :
  Calls Tryd.prog 13 #[.int .i64 n, .int .i64 m] w fun e w'=>e = .returned (.int .i64 (picked n m))/\ah w w':=by
 have HP:=hdd (qR n m w hn.1 hn.2 hm hm2)
 clear hn hm hm2
 obtain⟨q,hq⟩:=bt (picked n m)
 rw [hq]at HP ⊢
 clear hq
 go_enter Tryd.func13,Tryd.ntmps13
 go_wp2_with (go_at_call 29;(with_reducible refine HP.out.mono ?_);rintro e w2 ⟨rfl,hb2⟩)
 go_ret
 exact⟨rfl,ag⟩
theorem dK.take' {α:Type} {k sz:Nat} {en:α->List Value} {xs:List α} {m:Nat} (h:dK k sz en w (.slice ao xs.length cap) xs) (hm:m<=xs.length):dK k sz en w (.slice ao m cap) (xs.take m):=by
 obtain⟨ao',c,e,h1,h2,h3,h4,h5⟩:=h
 injection e with e1 _ e3
 subst e1 e3
 have hl:(xs.take m).length=m:=by rw [eP];omega
 refine⟨ao,cap,by rw [hl],af,h2,?_,h4,fun h=>?_⟩
 ·rw [hl];exact ik (Nat.mul_le_mul_right _ hm) h3
 ·rw [hl]at h
  obtain⟨b,off,e,hlt,hc⟩:=h5 af
  refine⟨b,off,e,hlt,fun i x hx=>hc i x ?_⟩
  rw [qg]at hx
  split at hx
  ·exact hx
  ·cases hx
theorem abw {xs:List Ac} {qs:List qG} {B:Nat} {w':World} {v:Value} (an:qs.map qG.an=sy St.zero xs) (own:eA B w' v qs) (rows:∀q∈qs,OwnRows B w' q.v q.an.rows) (ok:∀j,j<=xs.length->(gK St.zero (xs.take j)).m.Ok j) (hl:xs.length<=500) {W:World} (hb:ah w' W) :
  Yt W v qs/\∀q∈qs,fu W q.v q.an.rows:=by
 have hq:qs.length=xs.length:=by
  have:=congrArg List.length an
  rwa [oJ,uj]at this
 refine⟨(own.below hb aH).at af,fun q hq=>((rows q hq).below hb aH).at (adz ok hl q.an ?_)⟩
 rw [<-an]
 exact List.mem_map_of_mem hq
theorem ac7 {n:Nat} (hl:500<n) :
  Calls Tryd.prog 14 #[.slice ao n cap] w fun e w'=>ah w w'/\e = .returned (.tuple #[.slice none 0 0,dC, .int .i64 1]):=by
 obtain⟨W0,hW0⟩:=bP (w.alloc (.cells cL 35))
 have hb0:ah w W0:=by rw [hW0];exact ag
 have hz0:W0.heap.size=w.heap.size+1:=by rw [hW0];simp
 have k0:W0.heap[w.heap.size]?=some (.cells cL 35):=by rw [hW0];exact aj _ _ rfl
 have HR:=hdd (ad2 (ao:=ao) (cap:=cap) (w:=W0) hl)
 have Io:=hdd (aL hb0 (aL hz0 k0))
 clear hl hb0 hz0 k0
 go_enter Tryd.func14,Tryd.ntmps14
 go_upto_region 1 with (fail)
 rw [<-hW0]
 clear hW0
 go_upto_region 2 with (go_at_call 28;(with_reducible refine HR.out.mono ?_);rintro e w1 ⟨hb1,rfl⟩;have tX:=hdd hb1;clear hb1)
 obtain⟨W1,hW1⟩:=bP (w1.alloc (.cells cL 35))
 have mL:ah w1 W1:=by rw [hW1];exact ag
 have k1:W1.heap[w1.heap.size]?=some (.cells cL 35):=by rw [hW1];exact aj _ _ rfl
 obtain⟨c0,c1,c2,c3,c4,c5,c6,c7,-⟩:=fh k1
 have k0:W1.heap[w.heap.size]?=some (.cells cL 35):=(mL.block _ (by have:=tX.out.size;have:=Io.out.2.1;omega)).trans ((tX.out.block _ (by have:=Io.out.2.1;omega)).trans Io.out.2.2)
 obtain⟨r0,r1,r2,r3,r4,r5,r6,r7,rf⟩:=fh k0
 have OW:=hdd k0
 have vp:=hdd (cC (Below.trans' (Below.trans' Io.out.1 tX.out Io.out.1.size) mL (by have:=tX.out.size;have:=Io.out.2.1;omega)) aH (.slice none 0 0) (.slice none 0 0) (.int .i64 0) (.slice none 0 0) (.int .i64 0) (.slice none 0 0) (.int .i64 0) (.int .i64 0))
 rw [<-hW1]
 clear hW1 mL k1 k0
 go_upto_region 4 with (fail)
 refine bJ [(0,1),(1,0),(2,1),(3,1),(4,3),(5,1)] 4 (fun W=>W.cell? ⟨w1.heap.size,0,none⟩=some (.slice none 0 0)/\W.cell? ⟨w1.heap.size,1,none⟩=some (.slice none 0 0)/\W.cell? ⟨w1.heap.size,2,none⟩=some (.int .i64 0)/\W.cell? ⟨w1.heap.size,3,none⟩=some (.slice none 0 0)/\W.cell? ⟨w1.heap.size,4,none⟩=some (.int .i64 0)/\W.cell? ⟨w1.heap.size,5,none⟩=some (.slice none 0 0)/\W.cell? ⟨w1.heap.size,6,none⟩=some (.int .i64 0)/\W.cell? ⟨w1.heap.size,7,none⟩=some (.int .i64 0)) bT bT ⟨c0,c1,c2,c3,c4,c5,c6,c7⟩ ?_
 (simp only [bG,List.filterMap_cons,List.filterMap_nil,List.getElem?_cons_zero,List.getElem?_cons_succ,Option.map_some])
 (repeat first|refine aY ?_|refine aX ?_)
 refine bn rfl (fun K hK=>?_)
 go_simp
 refine hK _ _ ?_
 clear hK K
 (repeat first|refine aY ?_|refine aX ?_)
 refine cy ?_
 obtain⟨V,hV⟩:=bP (((((((((W1.setCell ⟨w.heap.size,0,none⟩ (.slice none 0 0)).setCell ⟨w.heap.size,1,none⟩ (.slice none 0 0)).setCell ⟨w.heap.size,2,none⟩ (.int .i64 0)).setCell ⟨w.heap.size,3,none⟩ (.slice none 0 0)).setCell ⟨w.heap.size,4,none⟩ (.int .i64 0)).setCell ⟨w.heap.size,5,none⟩ (.slice none 0 0)).setCell ⟨w.heap.size,6,none⟩ (.int .i64 0)).setCell ⟨w.heap.size,7,none⟩ (.int .i64 0)))
 have P8:ah w V:=by rw [hV];exact vp.out
 have kV:V.heap[w.heap.size]?=some (.cells cL 35):=by rw [hV];exact jb OW.out
 have kN:=hdd P8
 obtain⟨r0',ZU,r2',r3',r4',r5',r6',r7',-⟩:=fh (w:=V.drew) kV
 rw [<-hV]
 clear hV P8 kV r0 r1 r2 r3 r4 r5 r6 r7 rf c0 c1 c2 c3 c4 c5 c6 c7 vp
 go_wp2_with fail
 exact bodyPost_ret (v:= .tuple #[.slice none 0 0,dC, .int .i64 1]) (by simp [results,Tryd.results14,go_sem, *]) rfl ⟨kN.out.drew,rfl⟩
end Go.Proofs.YtmljjfhgciaceaaDoor
