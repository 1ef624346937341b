import Derived.Test.YtmljjfhgciaceaaDoorHd
import Derived.Test.YtmljjfhgciaceaaDoorTopZ
import Derived.Test.YtmljjfhgciaceaaDoorTopPut
import Derived.Test.YtmljjfhgciaceaaDoorTopX
import Derived.Test.YtmljjfhgciaceaaDoorTopW
import Derived.Test.YtmljjfhgciaceaaDoorEG
namespace Go.Proofs.YtmljjfhgciaceaaDoor
open Go.RowKit
set_option maxRecDepth 100000
set_option maxHeartbeats 4000000
abbrev Rw.cs (r:Rw):Array Value:=#[.int .i64 r.k, .int .i64 r.a, .int .i64 r.b, .int .i64 r.c]
abbrev VG (g:Nat) (r:Rw) (W:World):Prop:=W.cell? ⟨g,0,none⟩=some (.int .i64 r.k)/\W.cell? ⟨g,1,none⟩=some (.int .i64 r.a)/\W.cell? ⟨g,2,none⟩=some (.int .i64 r.b)/\W.cell? ⟨g,3,none⟩=some (.int .i64 r.c)
theorem acK {g:Nat} {r:Rw} {W:World} (h:W.heap[g]?=some (.cells r.cs 75)):VG g r W:=by simp [VG,World.cell?,h,Rw.cs]
def abx:List ByteArray:=[⟨#[99,112,117]⟩,⟨#[109,101,109]⟩,⟨#[110,101,116,46,105,110]⟩,⟨#[57]⟩]
theorem abG {L:List Ac} {p q:C9} (h:L.length<=34):(L++[aae p,aae q]).length<=500:=by rw [dO];simp;omega
theorem ac6 {v:Value} {xs:List Rw} {ra rb:Rw} {w:World} (h:Ar w v xs) (hx:∀a∈xs,a.ok) (hra:ra.ok) (IX:rb.ok) (hsz:bL w) :
  Calls Tryd.prog 8 #[v, .agg #[.int .i64 ra.k, .int .i64 ra.a, .int .i64 ra.b, .int .i64 ra.c], .agg #[.int .i64 rb.k, .int .i64 rb.a, .int .i64 rb.b, .int .i64 rb.c]] w fun e w'=>e = .returned (.bool true)/\ah w w':=by
 obtain⟨W0,hW0⟩:=bP ((w.alloc (.cells ra.cs 75)).alloc (.cells rb.cs 75))
 have hb0:ah w W0:=by rw [hW0];exact ag
 have hz0:W0.heap.size=w.heap.size+2:=by rw [hW0];simp
 have k0:W0.heap[w.heap.size]?=some (.cells ra.cs 75):=by rw [hW0,kW _ _ _ bj];exact aj _ _ rfl
 have k1:W0.heap[w.heap.size+1]?=some (.cells rb.cs 75):=by rw [hW0];exact aj _ _ bj
 have K2:=hdd fun W (hb:ah W0 W)=>(aL (acK ((hb.block _ af).trans k0)) (acK ((hb.block _ af).trans k1)):VG w.heap.size ra W/\VG (w.heap.size+1) rb W)
 have h0:=h.below hb0 aH
 obtain⟨ao,cap,rfl⟩:=h.isSlice
 have HA:=hdd (show Calls Tryd.prog 12 #[.slice ao xs.length cap, .int .i64 30] W0 _ from vg (most:=30) h0 hx aW)
 have nN:=hdd (hsz.below hb0)
 have HLA:=hdd (ve (xs:=xs) (most:=30))
 have HSA:=hdd (qh (xs:=xs) (most:=30))
 have HGA:=hdd (acH (xs:=xs) (most:=30))
 have Io:=hdd hb0
 have HPA:=hdd fun W=>abE (w:=W) hra
 have HPB:=hdd fun W=>abE (w:=W) IX
 have xR:=hdd (aL (Bw ra).1 (Bw rb).1)
 clear h hx hsz h0 hb0 hz0 k0 k1 hra IX
 obtain⟨p,hp⟩:=bt (ku ra)
 obtain⟨q,hq⟩:=bt (ku rb)
 rw [hp]at HPA xR
 rw [hq]at HPB xR
 clear hp hq
 go_enter Tryd.func8,Tryd.ntmps8
 go_upto_region 1 with (fail)
 rw [<-hW0]
 clear hW0
 go_upto_region 3 with (first
  |(go_at_call 12;(with_reducible refine HA.out.mono ?_);rintro e w1 ⟨hb1,oa,oc,rfl,hown⟩;have tX:=hdd hb1;have FD:=hdd hown;clear hown;have aaJ:=HLA.out)
  |(at_builtin;refine sW rfl (.tmp 14) (.tmp 19) rfl W0.heap.size w1.heap.size _ _ (jh xs 30) (abx.map aap) rfl rfl (FD.out.alloc _) (bN.lit (ys:=abx.map aap) (aj _ _ rfl) aH aW rfl) (by have:(abx.map aap).length=4:=rfl;omega) (by have:=tX.out.size;simp;omega) ?_;intro v4 w4 pN hg4))
 obtain⟨L,hL⟩:=bt (jh xs 30++abx.map aap)
 rw [hL]at pN
 have hll:L.length<=34:=by rw [<-hL,dO];have:(abx.map aap).length=4:=rfl;omega
 have hLs:∀a∈L,a.s.size<=140737488351232:=fun a ha=>by
  rw [<-hL]at ha
  rcases kJ.1 ha with ha|ha
  ·exact HSA.out a ha
  ·simp only [abx,List.map_cons,List.map_nil,fk,List.not_mem_nil,or_false]at ha
   rcases ha with rfl|rfl|rfl|rfl <;> decide
 have iI:=hdd (show gK St.zero (L++[aae p,aae q])=gK St.zero (L++[aae q,aae p]) by
  rw [<-hL]
  exact adq HGA.out (by simp [abx,jP]) (by simp [abx,jP]) xR.out.1 xR.out.2)
 have hps:∀(x y:C9),x.s∈jP->y.s∈jP->∀a∈L++[aae x,aae y],a.s.size<=140737488351232:=fun x y hx hy a ha=>by
  rcases kJ.1 ha with ha|ha
  ·exact hLs a ha
  ·simp only [fk,List.not_mem_nil,or_false]at ha
   rcases ha with rfl|rfl
   ·exact Gp _ hx
   ·exact Gp _ hy
 have HPS:=hdd (aL (hps p q xR.out.1 xR.out.2) (hps q p xR.out.2 xR.out.1))
 have UB:=hdd hll
 obtain⟨fo,fc,rfl⟩:=pN.isSlice
 have Zm:=hdd pN
 have wV:=hdd (show ah W0 w4 from Below.grown (tX.out.alloc tX.out.size _) hg4 (by have:=tX.out.size;simp;omega) (fun j hj=>(FD.out.lt j hj).1))
 clear hL pN hg4 hll hLs hps aaJ FD HA HLA hb1
 have HCa:=hdd (EZ ((Zm.out.block (w':=w4.drew) fun _ _=>rfl).at (by have:=UB.out;omega)))
 refine bJ [(0,1),(2,1),(3,0),(5,1),(6,0),(1,2),(4,2),(7,2),(8,2),(9,2),(10,3),(11,1),(12,1),(13,1),(14,1),(15,1)] 10 (fun W=>VG w.heap.size ra W/\VG (w.heap.size+1) rb W) bT bT (K2.out _ wV.out.drew) ?_
 (simp only [bG,List.filterMap_cons,List.filterMap_nil,List.getElem?_cons_zero,List.getElem?_cons_succ,Option.map_some])
 (repeat first|refine aY ?_|refine aX ?_)
 refine aP rfl (fun K hK=>?_)
 go_simp
 (with_reducible refine HCa.out.mono ?_);rintro x w5a ⟨v5,rfl,zF,cu⟩
 obtain⟨voa,vca,rfl⟩:=zF.isSlice
 have adT:=hdd (show ah w4 w5a from Below.trans' (aI _ w4).drew cu aH)
 have ahp:=hdd (Below.trans' wV.out adT.out wV.out.size)
 have agX:=hdd (zF.mono (C:=w4.heap.size) aH)
 have agL:=hdd (show w4.heap.size<=w5a.heap.size from cu.size)
 go_simp
 refine hK _ _ (K2.out _ ahp.out) ?_
 clear hK K cu zF
 (repeat first|refine aY ?_|refine aX ?_)
 refine aP rfl (fun K hK=>?_)
 go_simp
 (with_reducible refine(HPA.out _).mono ?_);rintro x w6a ⟨rfl,jf⟩
 have adR:=hdd (Below.trans' adT.out jf adT.out.size)
 have ahn:=hdd (Below.trans' wV.out adR.out wV.out.size)
 have agT:=hdd (agX.out.below jf aH)
 have agJ:=hdd (ik agL.out jf.size)
 go_simp
 refine hK _ _ (K2.out _ ahn.out) ?_
 clear hK K jf
 (repeat first|refine aY ?_|refine aX ?_)
 refine aP rfl (fun K hK=>?_)
 go_simp
 (with_reducible refine(HPB.out _).mono ?_);rintro x w7a ⟨rfl,jf⟩
 have adB:=hdd (Below.trans' adR.out jf adR.out.size)
 have adX:=hdd (Below.trans' wV.out adB.out wV.out.size)
 have aeo:=hdd (agT.out.below jf aH)
 have agw:=hdd (ik agJ.out jf.size)
 go_simp
 refine hK _ _ (K2.out _ adX.out) ?_
 clear hK K jf
 (repeat first|refine aY ?_|refine aX ?_)
 refine aP rfl (fun K hK=>?_)
 go_simp
 refine hK _ _ (K2.out _ (adX.out.alloc adX.out.size _)) ?_
 clear hK K
 (repeat first|refine aY ?_|refine aX ?_)
 refine aP rfl (fun K hK=>?_)
 refine aaO (.tmp 23) (.tmp 30) rfl w4.heap.size _ L [aae p,aae q] rfl (aeo.out.alloc _) w7a.heap.size 2 _ rfl (aj _ _ rfl) rfl (by have:=UB.out;simp;omega) (by have:=agw.out;simp;omega) ?_
 intro v8 w8a abg Tc
 have adP:=hdd (show ah w4 w8a from Below.grown (adB.out.alloc adB.out.size _) Tc (by have:=adB.out.size;simp;omega) (fun j hj=>(aeo.out.lt j hj).1))
 have adG:=hdd (Below.trans' wV.out adP.out wV.out.size)
 have P6:=mF (abg.at (by have:=UB.out;simp;omega)) HPS.out.1 (abG UB.out) (nN.out.below adG.out)
 obtain⟨Da,hD⟩:=bt (L++[aae p,aae q])
 rw [hD]at abg
 rw [hD]at P6
 obtain⟨boa,bca,rfl⟩:=abg.isSlice
 have ahl:=hdd P6
 have HDa:=hdd hD
 refine hK _ _ (K2.out _ adG.out) ?_
 clear hK K P6 abg Tc hD
 (repeat first|refine aY ?_|refine aX ?_)
 refine bn rfl (fun K hK=>?_)
 go_simp
 (with_reducible refine ahl.out.mono ?_);rintro e w9a ⟨pS,xoa,xca,rfl,Ow,hmo⟩
 go_simp
 refine hK _ _ ?_
 clear hK K
 (repeat first|refine aY ?_|refine aX ?_)
 refine cy ?_
 have Eo:=hmo.wH (by rw [<-HDa.out];exact abG UB.out)
 have abZ:=hdd (Below.trans' adG.out pS adG.out.size)
 obtain⟨X,hX⟩:=bt ((gK St.zero Da).m.bytes)
 rw [hX]at Ow Eo ⊢
 have HX:=hdd (show (gK St.zero (L++[aae p,aae q])).m.bytes=X by rw [HDa.out];exact hX)
 have XY:=hdd Ow
 have Qy:=hdd Eo
 have agm:=hdd (Below.trans' adP.out pS adP.out.size)
 have agY:=hdd (Zm.out.below agm.out aH)
 clear hX Ow Eo hmo pS
 go_upto_region 4 with (fail)
 have HCb:=hdd (EZ ((agY.out.block (w':=w9a.drew) fun _ _=>rfl).at (by have:=UB.out;omega)))
 refine bJ [(0,1),(2,1),(3,0),(5,1),(6,0),(1,2),(4,2),(7,2),(8,2),(9,2),(10,3),(11,1),(12,1),(13,1),(14,1),(15,1)] 10 (fun W=>VG w.heap.size ra W/\VG (w.heap.size+1) rb W) bT bT (K2.out _ abZ.out.drew) ?_
 (simp only [bG,List.filterMap_cons,List.filterMap_nil,List.getElem?_cons_zero,List.getElem?_cons_succ,Option.map_some])
 (repeat first|refine aY ?_|refine aX ?_)
 refine aP rfl (fun K hK=>?_)
 go_simp
 (with_reducible refine HCb.out.mono ?_);rintro x w5b ⟨v5,rfl,zF,cu⟩
 obtain⟨vob,vcb,rfl⟩:=zF.isSlice
 have adS:=hdd (show ah w9a w5b from Below.trans' (aI _ w9a).drew cu aH)
 have aho:=hdd (Below.trans' abZ.out adS.out abZ.out.size)
 have agW:=hdd (zF.mono (C:=w9a.heap.size) aH)
 have agK:=hdd (show w9a.heap.size<=w5b.heap.size from cu.size)
 go_simp
 refine hK _ _ (K2.out _ aho.out) ?_
 clear hK K cu zF
 (repeat first|refine aY ?_|refine aX ?_)
 refine aP rfl (fun K hK=>?_)
 go_simp
 (with_reducible refine(HPB.out _).mono ?_);rintro x w6b ⟨rfl,jf⟩
 have adQ:=hdd (Below.trans' adS.out jf adS.out.size)
 have ahm:=hdd (Below.trans' abZ.out adQ.out abZ.out.size)
 have agS:=hdd (agW.out.below jf aH)
 have agI:=hdd (ik agK.out jf.size)
 go_simp
 refine hK _ _ (K2.out _ ahm.out) ?_
 clear hK K jf
 (repeat first|refine aY ?_|refine aX ?_)
 refine aP rfl (fun K hK=>?_)
 go_simp
 (with_reducible refine(HPA.out _).mono ?_);rintro x w7b ⟨rfl,jf⟩
 have adA:=hdd (Below.trans' adQ.out jf adQ.out.size)
 have adW:=hdd (Below.trans' abZ.out adA.out abZ.out.size)
 have aen:=hdd (agS.out.below jf aH)
 have agv:=hdd (ik agI.out jf.size)
 go_simp
 refine hK _ _ (K2.out _ adW.out) ?_
 clear hK K jf
 (repeat first|refine aY ?_|refine aX ?_)
 refine aP rfl (fun K hK=>?_)
 go_simp
 refine hK _ _ (K2.out _ (adW.out.alloc adW.out.size _)) ?_
 clear hK K
 (repeat first|refine aY ?_|refine aX ?_)
 refine aP rfl (fun K hK=>?_)
 refine aaO (.tmp 37) (.tmp 44) rfl w9a.heap.size _ L [aae q,aae p] rfl (aen.out.alloc _) w7b.heap.size 2 _ rfl (aj _ _ rfl) rfl (by have:=UB.out;simp;omega) (by have:=agv.out;simp;omega) ?_
 intro v8 w8b abg Tc
 have adO:=hdd (show ah w9a w8b from Below.grown (adA.out.alloc adA.out.size _) Tc (by have:=adA.out.size;simp;omega) (fun j hj=>(aen.out.lt j hj).1))
 have adE:=hdd (Below.trans' abZ.out adO.out abZ.out.size)
 have P6:=mF (abg.at (by have:=UB.out;simp;omega)) HPS.out.2 (abG UB.out) (nN.out.below adE.out)
 unfold C5 at P6
 rw [<-iI.out,HX.out]at P6
 obtain⟨Db,hD⟩:=bt (L++[aae q,aae p])
 rw [hD]at abg
 obtain⟨bob,bcb,rfl⟩:=abg.isSlice
 have ahk:=hdd P6
 have HDb:=hdd hD
 refine hK _ _ (K2.out _ adE.out) ?_
 clear hK K P6 abg Tc hD
 (repeat first|refine aY ?_|refine aX ?_)
 refine bn rfl (fun K hK=>?_)
 go_simp
 (with_reducible refine ahk.out.mono ?_);rintro e w9b ⟨pS,xob,xcb,rfl,Ow,-⟩
 go_simp
 refine hK _ _ ?_
 clear hK K
 (repeat first|refine aY ?_|refine aX ?_)
 refine cy ?_
 obtain⟨g1,o1,rfl,hs1⟩:=XY.out.str Qy.out.1 Qy.out.2
 obtain⟨g2,o2,rfl,hs2⟩:=Ow.str Qy.out.1 Qy.out.2
 have qD:=hdd (Below.trans' adE.out pS adE.out.size)
 have hs1:=hs1 w9b (Below.trans' adO.out pS adO.out.size)
 have hs2:=hs2 w9b (aI _ _)
 obtain⟨S,hS⟩:=bt (strOfNums X)
 rw [hS]at hs1 hs2
 clear hS Ow pS
 go_wp2_with fail
 go_ret
 exact⟨rfl,Below.trans' Io.out qD.out Io.out.size⟩
end Go.Proofs.YtmljjfhgciaceaaDoor
