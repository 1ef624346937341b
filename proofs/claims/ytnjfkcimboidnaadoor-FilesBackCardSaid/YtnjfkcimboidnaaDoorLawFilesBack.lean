/- The law FilesBack: a base is kept, and comes back; spoilt, it does not. -/
import Derived.Test.YtnjfkcimboidnaaDoorKD
import Derived.Test.YtnjfkcimboidnaaDoorKE
import Derived.Test.YtnjfkcimboidnaaDoorSO
import Derived.Test.YtnjfkcimboidnaaDoorEG
import Derived.Test.YtnjfkcimboidnaaDoorTells
import Derived.Test.YtnjfkcimboidnaaDoorOpenBy
namespace Go.Proofs.YtnjfkcimboidnaaDoor
open Go.RowKit
theorem dec_no {v:Value} {bs:List Int} {w:World} (h:ByteSl w v bs) (hb:AllBytes bs) (hsz:SizesAt w) (h0:decE bs≠0):Calls Tryd.prog 22 #[v] w fun x w'=>Below w.heap.size w w'∧∃E,E≠0∧x = .returned (.tuple #[zeroB, .int .i64 E]):=by
 refine(decode_any h hb hsz).mono ?_
 rintro x w' ⟨hb1,⟨E,hE,rfl,-⟩|⟨hd,-⟩⟩
 ·exact⟨hb1,E,hE,rfl⟩
 ·exact absurd hd h0
def kbM (pts:List Pnt) (b:Ba):Mo:=⟨b.names,0,bag (pts.map (entP b.names))⟩
theorem kb_is {pts:List Pnt} {b:Ba} {N:Nat} (h:KB pts b) (hN:pts.length≤N):Is b (kbM pts b) N:=
 Is.mono (N:=pts.length) ⟨h.st,rfl,h.floor⟩ hN
structure ByOk (X:List Int):Prop where
 all:AllBytes X
 short:X.length≤100000
 long:6≤X.length
 more:∀c,decE (X++[c])≠0
 other:∀(j:Nat) (hj:j<X.length) (c:Int),0≤c∧c≤255→c≠X[j]→decE (X.set j c)≠0
theorem Mo.Ok.by {m:Mo} {N:Nat} (h:m.Ok N) (hN:N≤500):ByOk m.bytes:=by
 have hl:=h.len
 have hsh:=h.fit.short (l:=m.L) (by omega)
 have h5:=bytesM_len m.ns m.fl m.L
 have hlen:m.bytes.length=(bytesM m.ns m.fl m.L).length+4:=by unfold Mo.bytes;rw [List.length_append,seal_len]
 refine⟨fileL_bytes _ _ _,hsh,by omega,fun c=>?_,fun j hj c hc hne=>?_⟩
 ·exact dec_more h.fit.n16 (fun s hs=>nameMay_size (h.fit.may s hs)) h.fit.f0.1 (by have:=h.fit.f0;omega) (by omega) h.fit.ents h.fit.rise c
 ·have h6:6≤m.bytes.length:=by omega
  refine dec_other (fileL_bytes _ _ _) h6 ?_ hj hc hne
  have e:(bytesM m.ns m.fl m.L++sealL (bytesM m.ns m.fl m.L)).length-4=(bytesM m.ns m.fl m.L).length:=by rw [List.length_append,seal_len];omega
  rw [e,List.take_left,List.drop_left]
set_option maxRecDepth 100000 in
set_option maxHeartbeats 4000000 in
theorem filesBack_any {v:Value} {xs:List Rw} {cu bt:Int} {w:World} (h:RwsAt w v xs) (hx:∀a∈xs,a.ok) (hc:i64 cu) (hbt:u8 bt) (hsz:SizesAt w) :
  Calls Tryd.prog 7 #[v, .int .i64 cu, .int .u8 bt] w fun e w'=>e = .returned (.bool true)∧Below w.heap.size w w':=by
 obtain⟨ao,cap,rfl⟩:=h.isSlice
 have HTE:=Lib.hid (tells_any hsz)
 have HKB:=Lib.hid fun W (hb:Below w.heap.size w W)=>(show Calls Tryd.prog 25 #[.slice ao xs.length cap, .int .i64 40] W (KbPost xs 40 W)from kBase_any (most:=40) (h.below hb (Nat.le_refl _)) hx (by decide) (hsz.below hb))
 have HSZ:=Lib.hid hsz
 have HC:=Lib.hid (And.intro hc hbt)
 clear h hx hsz hc hbt
 go_enter Tryd.func7,Tryd.ntmps7
 go_upto_region 3 with (go_at_call 24;(with_reducible refine HTE.out.mono ?_);rintro e w0 ⟨rfl,hb0⟩)
 have HB0:=Lib.hid hb0
 have HKB0:=Lib.hid (HKB.out w0 hb0)
 clear hb0 HKB HTE
 go_upto_region 4 with (go_at_call 25;(with_reducible refine HKB0.out.mono ?_);rintro e w1 ⟨hb1,sa,sc,g0,l0,p0,g1,l1,p1,g2,l2,p2,b,pa,pc,pts,rfl,hat,hown,hkb,heq⟩;have HHK:=Lib.hid (And.intro hkb heq);clear hkb heq)
 obtain⟨hkb,heq⟩:=HHK.out
 obtain⟨W1,hW1⟩:∃W1,W1=w1.alloc (.cells (baCells sa b.names.length sc g0 l0 p0 g1 l1 p1 g2 l2 p2 b) 35):=⟨_,rfl⟩
 have hb1':Below w1.heap.size w1 W1:=by rw [hW1];exact belowAuto
 have hbx:BxAt W1 w1.heap.size sa sc g0 l0 p0 g1 l1 p1 g2 l2 p2 b:=by rw [hW1];exact BxAt.new hat
 have HX1:=Lib.hid (show KxAt w0 w1.heap.size sa sc g0 l0 p0 g1 l1 p1 g2 l2 p2 b (.slice pa pts.length pc) pts W1 from ⟨Below.trans' hb1 hb1' hb1.size,hbx,hown.below hb1' (Nat.le_refl _)⟩)
 have hl40:pts.length≤40:=by rw [heq,List.length_map,List.length_take];omega
 have hpo:∀p∈pts,PtOk p:=fun p hp=>by
  rw [heq]at hp
  obtain⟨r,-,rfl⟩:=List.mem_map.1 hp
  exact(pointF_early r).1
 have his:=kb_is (N:=40) hkb hl40
 have HIS:=Lib.hid his
 have HBY:=Lib.hid ((his.ok (by decide)).by (by decide))
 have HMK:=Lib.hid (his.ok (by decide))
 have HKP:=Lib.hid (And.intro hl40 hpo)
 rw [←hW1]
 obtain⟨tb,htb⟩:∃tb,w1.heap.size=tb:=⟨_,rfl⟩
 rw [htb]at HX1 ⊢
 have HBW:=Lib.hid (fun W (hx:Below w0.heap.size w0 W)=>(Below.trans' HB0.out hx HB0.out.size:Below w.heap.size w W))
 have HSW:=Lib.hid (fun W (hx:Below w0.heap.size w0 W)=>HSZ.out.below (HBW.out W hx))
 obtain⟨X,hX⟩:∃X,(kbM pts b).bytes=X:=⟨_,rfl⟩
 have hEN:=fun(W:World) (c:Ba) (va:Value) (hi:Is c (kbM pts b) 40) (hc:BaseAt W va c) (hs:SizesAt W)=>enc_is hi (by decide) hc hs
 have hDC:=fun(W:World) (va:Value) (hs:ByteSl W va X) (hsz:SizesAt W)=>dec_is HMK.out (by decide) (by rw [hX];exact hs) hsz
 rw [hX]at hEN HBY
 have HEN:=Lib.hid hEN
 have HDC:=Lib.hid hDC
 obtain⟨c0,c1,c2,c3,c4,c5,c6,c7⟩:=HX1.out.bx.cells
 have HE1:=Lib.hid (HEN.out _ _ _ HIS.out HX1.out.bx.at' (HSW.out _ HX1.out.below))
 clear hW1 hb1 hb1' hbx hat hown hkb heq htb hl40 hpo his hX hEN hDC
 go_upto_region 5 with (go_at_call 23;(with_reducible refine HE1.out.mono ?_);rintro e w2 ⟨hb2,ro,rc,rfl,hro⟩)
 have HX2:=Lib.hid (HX1.out.later hb2)
 have HD2:=Lib.hid (HDC.out _ _ (hro.at (by have:=HBY.out.short;omega)) (HSW.out _ HX2.out.below))
 have HRO:=Lib.hid hro
 clear hb2 hro c0 c1 c2 c3 c4 c5 c6 c7 HE1
 go_upto_region 6 with (go_at_call 22;(with_reducible refine HD2.out.mono ?_);rintro e w3 ⟨hb3,c,ya,yc,z0,m0,q0,z1,m1,q1,z2,m2,q2,rfl,hk3,hi3⟩)
 obtain⟨W3,hW3⟩:∃W3,W3=w3.alloc (.cells (baCells ya c.names.length yc z0 m0 q0 z1 m1 q1 z2 m2 q2 c) 35):=⟨_,rfl⟩
 have hb3':Below w3.heap.size w3 W3:=by rw [hW3];exact belowAuto
 have HY3:=Lib.hid (show BxAt W3 w3.heap.size ya yc z0 m0 q0 z1 m1 q1 z2 m2 q2 c by rw [hW3];exact BxAt.new hk3)
 have HX3:=Lib.hid ((HX2.out.later hb3).later hb3')
 have HI3:=Lib.hid hi3
 have HO3:=Lib.hid ((HRO.out.below hb3 (Nat.le_refl _)).below hb3' (Nat.le_refl _))
 obtain⟨c0,c1,c2,c3,c4,c5,c6,c7⟩:=HY3.out.cells
 have HE3:=Lib.hid (HEN.out _ _ _ hi3 HY3.out.at' (HSW.out _ HX3.out.below))
 rw [←hW3]
 obtain⟨ub,hub⟩:∃ub,w3.heap.size=ub:=⟨_,rfl⟩
 rw [hub]at HY3 c0 c1 c2 c3 c4 c5 c6 c7 ⊢
 clear hW3 hb3 hb3' hk3 hi3 hub HD2
 go_upto_region 7 with (go_at_call 23;(with_reducible refine HE3.out.mono ?_);rintro e w4 ⟨hb4,r4,rc4,rfl,hto⟩)
 have HX4:=Lib.hid (HX3.out.later hb4)
 have HY4:=Lib.hid (HY3.out.later hb4)
 have HO4:=Lib.hid (HO3.out.below hb4 (Nat.le_refl _))
 have hs1:=(HO4.out.at (by have:=HBY.out.short;omega))
 have hs2:=(hto.at (by have:=HBY.out.short;omega))
 obtain⟨_,_,hv,-,-,-,-,q5⟩:=hs1
 obtain⟨gx,gxo,ha,-⟩:=q5 (by have:=HBY.out.long;omega)
 injection hv with hv1 _ hv3
 subst hv1 hv3 ha
 obtain⟨_,_,hv,-,-,-,-,q6⟩:=hs2
 obtain⟨gy,gyo,ha,-⟩:=q6 (by have:=HBY.out.long;omega)
 injection hv with hv1 _ hv3
 subst hv1 hv3 ha
 have hs1:=ByteSl.str (HO4.out.at (by have:=HBY.out.short;omega))
 have hs2:=ByteSl.str (hto.at (by have:=HBY.out.short;omega))
 obtain⟨S,hS⟩:∃S,strOfNums X=S:=⟨_,rfl⟩
 rw [hS]at hs1 hs2
 have hck:=baseCheck_any HY4.out.at' HI3.out.small (HSW.out _ HX4.out.below)
 rw [show checkE c=0 from checkE_yes HI3.out.st.may]at hck
 have HCK:=Lib.hid hck
 have HEQ:=Lib.hid fun W (hx:KxAt w0 tb sa sc g0 l0 p0 g1 l1 p1 g2 l2 p2 b (.slice pa pts.length pc) pts W) (hy:BxAt W ub ya yc z0 m0 q0 z1 m1 q1 z2 m2 q2 c)=>equalStr_eq hx.bx.names hy.names HI3.out.ns.symm
 clear c0 c1 c2 c3 c4 c5 c6 c7 q5 q6 hto hb4 hS hck HE3 HO3 HRO HY3 HX3 HX2
 obtain⟨c0,c1,c2,c3,c4,c5,c6,c7⟩:=HY4.out.cells
 go_upto_region 9 with (first
  |(go_at_call 26;(with_reducible refine HCK.out.mono ?_);rintro e w5 ⟨rfl,hb5⟩;have HX5:=Lib.hid (HX4.out.later hb5);have HY5:=Lib.hid (HY4.out.later hb5);have HO5:=Lib.hid (HO4.out.below hb5 (Nat.le_refl _));have u0:=HX5.out.bx.cells.1;have d0:=HY5.out.cells.1)
  |(go_at_call 27;(with_reducible refine(HEQ.out _ HX5.out HY5.out).mono ?_);rintro e w6 ⟨rfl,hb6⟩))
 have HX6:=Lib.hid (HX5.out.later hb6)
 have HY6:=Lib.hid (HY5.out.later hb6)
 have HO6:=Lib.hid (HO5.out.below hb6 (Nat.le_refl _))
 have r0:=HX6.out.bx.cells.1
 clear hb5 hb6 u0 d0 c0 c1 c2 c3 c4 c5 c6 c7 hs1 hs2 HX5 HY5 HO5 HX4 HY4 HO4 HCK HEQ
 go_upto_region 10 with (fail)
 clear r0
 go_loopg [79] b.names.length (fun g i wr=>∃k:Nat,k≤b.names.length∧g=b.names.length-k∧i = .int .i64 k∧Hid (KxAt w0 tb sa sc g0 l0 p0 g1 l1 p1 g2 l2 p2 b (.slice pa pts.length pc) pts wr∧BxAt wr ub ya yc z0 m0 q0 z1 m1 q1 z2 m2 q2 c∧OwnBytes W1.heap.size wr (.slice (some ⟨gx,gxo,none⟩) X.length rc) X))
 case atStart=>exact⟨0,Nat.zero_le _,rfl,rfl,Lib.hid ⟨HX6.out,HY6.out,HO6.out⟩⟩
 case round=>
  clear HX6 HY6 HO6
  obtain⟨k,hk,rfl,rfl,HJ⟩:=hrel
  have HX:=Lib.hid HJ.out.1
  have HY:=Lib.hid HJ.out.2.1
  have HO:=Lib.hid HJ.out.2.2
  clear HJ
  have hn16:=(baseMay_ok HHK.out.1.st.may).n16
  by_cases hlt:k<b.names.length
  ·have hlt3:(k:Int)<(b.names.length:Int):=by omega
   obtain⟨_,_,hv,-,-,-,-,q5⟩:=HX.out.bx.names
   obtain⟨ab,aoff,ha,abb,ac⟩:=q5 (by omega)
   injection hv with hv1 _ hv3
   subst hv1 hv3 ha
   have e0:=strs_cell (Below.refl _ _) abb ac hlt
   obtain⟨s,hs⟩:∃s,b.names[k]=s:=⟨_,rfl⟩
   rw [hs]at e0
   have hsm:s∈b.names:=by rw [←hs];exact List.getElem_mem hlt
   obtain⟨f1,f2⟩:=kb_total (a:=0) (z:=1048575) HHK.out.1 (by have:=HKP.out.1;omega) hsm HKP.out.2 (by unfold rowsOk;omega)
   obtain⟨f3,f4⟩:=HIS.out.totIs (by decide) s 0 1048575
   have htot:=tot_is (s:=s) (a:=0) (z:=1048575) HI3.out (by decide) HY.out.at' (HSW.out _ HX.out.below)
   rw [f3.symm.trans f1,f4.symm.trans f2]at htot
   have hkn:=fun W (hx:KxAt w0 tb (some ⟨ab,aoff,none⟩) sc g0 l0 p0 g1 l1 p1 g2 l2 p2 b (.slice pa pts.length pc) pts W)=>known_any (s:=s) (a:=0) (z:=1048575) (hx.own.at (by have:=HKP.out.1;omega)) (by have:=HKP.out.1;omega) HKP.out.2
   obtain⟨R,hR⟩:∃R,knownF pts s 0 1048575=R:=⟨_,rfl⟩
   rw [hR]at htot
   simp only [hR]at hkn
   have HTO:=Lib.hid htot
   have HKN:=Lib.hid hkn
   have hix:=fun w'=>idx_str (ab:=ab) (aoff:=aoff) (n:=b.names.length) (cap:=sc) (show (k:Int)=((k:Nat):Int) by rfl) hlt w'
   obtain⟨c0,c1,c2,c3,c4,c5,c6,c7⟩:=HY.out.cells
   clear f1 f2 f3 f4 htot hkn hR hs hsm ac q5
   go_upto_region 13 with (go_at_call 28;(with_reducible refine HTO.out.mono ?_);rintro e w7 ⟨hb7,rfl⟩)
   obtain⟨W7,hW7⟩:∃W7,W7=w7.alloc (.cells #[.int .i64 R.c, .int .i64 R.s, .int .i64 R.mi, .int .i64 R.ma, .int .i64 R.t, .int .i64 R.l] 42):=⟨_,rfl⟩
   have hb7':Below w7.heap.size w7 W7:=by rw [hW7];exact belowAuto
   have k7:W7.heap[w7.heap.size]?=some (.cells #[.int .i64 R.c, .int .i64 R.s, .int .i64 R.mi, .int .i64 R.ma, .int .i64 R.t, .int .i64 R.l] 42):=by rw [hW7];exact heap_new _ _ rfl
   have HB7:=Lib.hid (Below.trans' hb7 hb7' hb7.size)
   have HX7:=Lib.hid ((HX.out.later HB7.out).later (Below.refl _ _).drew)
   have HR7:=Lib.hid (fun W (hb:Below W7.heap.size W7 W)=>roll_cells ((hb.block _ (by rw [hW7];simp)).trans k7))
   rw [←hW7]
   clear hW7 hb7 hb7' k7 c0 c1 c2 c3 c4 c5 c6 c7 hix e0
   refine wp_region_schedG [(0,1),(1,1),(2,1),(3,0),(4,1),(5,1),(6,2),(7,1),(8,3)] 8
    (fun W=>W.cell? ⟨w7.heap.size,0,none⟩=some (.int .i64 R.c)∧W.cell? ⟨w7.heap.size,1,none⟩=some (.int .i64 R.s)∧W.cell? ⟨w7.heap.size,2,none⟩=some (.int .i64 R.mi)∧W.cell? ⟨w7.heap.size,3,none⟩=some (.int .i64 R.ma)∧W.cell? ⟨w7.heap.size,4,none⟩=some (.int .i64 R.t)∧W.cell? ⟨w7.heap.size,5,none⟩=some (.int .i64 R.l))
    (by kernel_rfl) (by kernel_rfl) (HR7.out _ ((Below.refl _ _).drew)) ?_
   (simp only [pickS,List.filterMap_cons,List.filterMap_nil,List.getElem?_cons_zero,List.getElem?_cons_succ,Option.map_some])
   (repeat (first|((refine schedG_pure (v:=?_) ?_ (fun W=>?_) ?_);rotate_left;(focus (first|exact wanted_bare rfl _|exact wanted_yes rfl rfl rfl rfl));(focus (go_simp;(try with_reducible rfl);done));(try simp only [Act.put,List.setIfInBounds_toArray,List.set_cons_zero,List.set_cons_succ]))|((refine schedG_read (v:=?_) ?_ (fun W hW=>?_) ?_);rotate_left;(focus (first|exact wanted_bare rfl _|exact wanted_yes rfl rfl rfl rfl));(focus ((try dsimp only at hW);go_simp;(try with_reducible rfl);done));(try simp only [Act.put,List.setIfInBounds_toArray,List.set_cons_zero,List.set_cons_succ]))|((refine schedG_skip ?_ ?_);(focus exact wanted_no rfl rfl rfl rfl);(try simp only [Act.put,List.setIfInBounds_toArray,List.set_cons_zero,List.set_cons_succ]))))
   refine schedG_does ?_ (fun K hK=>?_)
   (focus (first|exact wanted_bare rfl _|exact wanted_yes rfl rfl rfl rfl))
   go_simp
   (with_reducible refine(HKN.out _ HX7.out).mono ?_);rintro e w8 ⟨rfl,hb8⟩
   go_simp
   refine hK _ _ (HR7.out _ (Below.trans' ((Below.refl _ _).drew) hb8 (Nat.le_refl _))) ?_
   clear hK K
   (repeat (first|((refine schedG_pure (v:=?_) ?_ (fun W=>?_) ?_);rotate_left;(focus (first|exact wanted_bare rfl _|exact wanted_yes rfl rfl rfl rfl));(focus (go_simp;(try with_reducible rfl);done));(try simp only [Act.put,List.setIfInBounds_toArray,List.set_cons_zero,List.set_cons_succ]))|((refine schedG_read (v:=?_) ?_ (fun W hW=>?_) ?_);rotate_left;(focus (first|exact wanted_bare rfl _|exact wanted_yes rfl rfl rfl rfl));(focus ((try dsimp only at hW);go_simp;(try with_reducible rfl);done));(try simp only [Act.put,List.setIfInBounds_toArray,List.set_cons_zero,List.set_cons_succ]))|((refine schedG_skip ?_ ?_);(focus exact wanted_no rfl rfl rfl rfl);(try simp only [Act.put,List.setIfInBounds_toArray,List.set_cons_zero,List.set_cons_succ]))))
   refine schedG_last ?_ (fun K hK=>?_)
   (focus (first|exact wanted_bare rfl _|exact wanted_yes rfl rfl rfl rfl))
   go_simp
   refine hK _ _ ?_
   clear hK K
   refine schedG_end ?_
   have HB8:=Lib.hid (Below.trans' HB7.out (Below.trans' ((Below.refl _ _).drew) hb8 (Nat.le_refl _)) HB7.out.size)
   clear hb8
   go_wp2_with fail
   go_roundg (b.names.length-(k+1))
   case measure=>omega
   case rel=>exact⟨k+1,by omega,rfl,by go_num,Lib.hid ⟨HX.out.later HB8.out,HY.out.later HB8.out,HO.out.below HB8.out (Nat.le_refl _)⟩⟩
  ·have hbw:=HX.out.below
   have HCL:=Lib.hid (cloneBy_any (HO.out.at (by have:=HBY.out.short;omega)))
   clear hbw
   go_upto_region 16 with (fail)
   go_upto_region 17 with (first
    |(go_at_call 30;(with_reducible refine HCL.out.mono ?_);rintro e w7 ⟨v7,rfl,ho7,hb7⟩;obtain⟨so7,sc7,rfl⟩:=ho7.isSlice;have hs7:=hb7.size)
    |(at_builtin;refine wpList_append_bytes rfl (.tmp 101) (.tmp 102) rfl wr.heap.size _ X rfl (ho7.alloc _) ⟨_,0,none⟩ 1 1 [0] rfl rfl (fun j u h=>byte_new (by simpa [enB] using h)) (by have:=HBY.out.short;omega) (by decide) (by first|omega|(simp;done)|(simp;omega)|(simp [drew_size];done)|(simp [drew_size];omega)) ?_;intro v8 w8 own8 ht8 hl8;obtain⟨Y,hY⟩:∃Y,X++[0]=Y:=⟨_,rfl⟩;have HYE:=Lib.hid (And.intro (show Y.length≤200000 by have:=HBY.out.short;rw [←hY,List.length_append];simp;omega) (And.intro (show AllBytes Y by rw [←hY];exact HBY.out.all.app (fun c hc=>by rw [List.mem_singleton.1 hc];omega)) (show decE Y≠0 by rw [←hY];exact HBY.out.more 0)));rw [hY]at own8;clear hY;obtain⟨so8,sc8,rfl⟩:=own8.isSlice;have hb8:Below wr.heap.size wr w8:=(ht8.below (Below.trans' hb7 ((Below.refl _ _).alloc (Nat.le_refl _) _) hb7.size) (by simp;omega) (fun i hi=>(ho7.lt i hi).1));have HD8:=Lib.hid (dec_no (own8.at (by have:=HYE.out.1;omega)) HYE.out.2.1 (HSW.out _ (HX.out.later hb8).below) HYE.out.2.2);have HB8:=Lib.hid hb8;clear ht8 hl8 own8 hb8)
    |(go_at_call 22;(with_reducible refine HD8.out.mono ?_);rintro e w9 ⟨hb9,E,hE,rfl⟩))
   have hE':(E != 0)=true:=by simpa using hE
   have HB9:=Lib.hid (Below.trans' HB8.out hb9 HB8.out.size)
   clear hb7 ho7 hs7 hE hb9
   by_cases h0:bt=0
   ·have h0':(bt == 0)=true:=by simp [h0]
    have HBF:=Lib.hid (HBW.out _ (HX.out.later HB9.out).below)
    clear h0
    go_wp2_with fail
    go_ret
    exact⟨rfl,HBF.out.alloc HBF.out.size _⟩
   ·have h0':(bt == 0)=false:=by simpa using h0
    have HB0:=Lib.hid h0
    clear h0
    obtain⟨W9,hW9⟩:∃W9,W9=w9.alloc (.cells zeroBC 35):=⟨_,rfl⟩
    have hb9:Below wr.heap.size wr W9:=by rw [hW9];exact HB9.out.alloc HB9.out.size _
    have HO9:=Lib.hid (HO.out.below hb9 (Nat.le_refl _))
    have HX9:=Lib.hid (HX.out.later hb9)
    have HZ9:=Lib.hid HX9.out.below.size
    have HCL9:=Lib.hid (cloneBy_any (HO9.out.at (by have:=HBY.out.short;omega)))
    have HPI:=Lib.hid fun W=>picked_any2 cu X.length W HC.out.1.1 HC.out.1.2 (by have:=HBY.out.long;omega) (by have:=HBY.out.short;omega)
    have hpr:=picked_range (n:=cu) (m:=X.length) (by have:=HBY.out.long;omega)
    obtain⟨j,hj⟩:∃j:Nat,picked cu X.length=j:=⟨(picked cu X.length).toNat,by omega⟩
    rw [hj]at HPI hpr
    have hjl:j<X.length:=by omega
    go_upto_region 19 with (fail)
    rw [←hW9]
    clear hW9 hb9 hj hpr
    go_upto_region 20 with (go_at_call 30;(with_reducible refine HCL9.out.mono ?_);rintro e w10 ⟨v10,rfl,ho10,hb10⟩)
    obtain⟨g,gc,rfl⟩:∃g gc,v10 = .slice (some ⟨g,0,none⟩) X.length gc:=by
     obtain⟨-,⟨-,h0⟩|⟨g,gc,-,e,-⟩⟩:=ho10.row
     ·omega
     ·exact⟨g,gc,e⟩
    have HX10:=Lib.hid (HX9.out.later hb10)
    have HO10:=Lib.hid ho10
    clear ho10 hb10
    have hix:=fun w'=>(by have h1:=idx_bytes (ab:=g) (aoff:=0) (n:=X.length) (cap:=gc) (show (j:Int)=((j:Nat):Int) by rfl) hjl w';rw [Nat.zero_add]at h1;exact h1:(Instr.indexAt 54 (.slice (some ⟨g,0,none⟩) X.length gc) (.int .i64 (j:Int))).run Tryd.prog w' = .ok (.pointer (some ⟨g,j,none⟩)) w')
    obtain⟨x0,hx0⟩:∃x0,X[j]=x0:=⟨_,rfl⟩
    have hxr:=HBY.out.all X[j] (List.getElem_mem hjl)
    have hbr:=HC.out.2
    have hb00:=HB0.out
    obtain⟨V,hV⟩:∃V,IntKind.u8.wrap (x0+bt)=V:=⟨_,rfl⟩
    have hVr:0≤V∧V≤255∧V≠X[j]:=by
     rw [←hV,IntKind.wrap_u8,hx0]
     rw [hx0]at hxr
     unfold u8 at hbr
     omega
    have HVR:=Lib.hid hVr
    have hcell:∀W,Below w10.heap.size w10 W→W.cell? ⟨g,j,none⟩=some (.int .u8 x0)∧(∀o,W.frozen? ⟨g,o,none⟩=false):=fun W hb=>by
     have ho:=HO10.out.below hb (Nat.le_refl _)
     obtain⟨_,_,hv,-,-,-,-,q5⟩:=ho.at (by have:=HBY.out.short;omega)
     obtain⟨_,_,ha,-,hc⟩:=q5 (by omega)
     injection hv with hv1 _ hv3
     subst hv1
     injection ha with ha
     injection ha with ha1 ha2
     subst ha1 ha2
     have h1:=byteSl_cell hc hjl
     rw [Nat.zero_add,hx0]at h1
     exact⟨h1,World.ownsRow.frozenAt ho.row⟩
    have HCE:=Lib.hid hcell
    clear hx0 hxr hbr hb00 hVr hcell HO9 HX9 HCL9
    go_upto_region 21 with (go_at_call 31;(with_reducible refine(HPI.out _).mono ?_);rintro e w11 ⟨rfl,hb11⟩;obtain⟨y0,yf⟩:=HCE.out _ hb11)
    have HO11:=Lib.hid (HO10.out.below hb11 (Nat.le_refl _))
    have HX11:=Lib.hid (HX10.out.later hb11)
    have HO12:=Lib.hid (HO11.out.set (c:=V) hjl)
    have HX12:=Lib.hid (show Below w0.heap.size w0 (w11.setCell ⟨g,j,none⟩ (.int .u8 V))from HX11.out.below.setCell (by have h1:=(HO11.out.lt g rfl).1;have h2:=HZ9.out;show w0.heap.size≤g;omega) _)
    have HD12:=Lib.hid (dec_no (HO12.out.at (by have:=HBY.out.short;rw [List.length_set];omega)) (fun c hc=>by
     rcases List.mem_or_eq_of_mem_set hc with hc|rfl
     ·exact HBY.out.all c hc
     ·exact⟨HVR.out.1,HVR.out.2.1⟩) (HSW.out _ HX12.out) (HBY.out.other j hjl V ⟨HVR.out.1,HVR.out.2.1⟩ HVR.out.2.2))
    obtain⟨V12,hV12⟩:∃V',V'=w11.setCell ⟨g,j,none⟩ (.int .u8 V):=⟨_,rfl⟩
    rw [←hV12]at HD12 HX12 ⊢
    have HBF:=Lib.hid (HBW.out _ HX12.out)
    clear hV12 HO12 y0 yf hb11 hix hV
    go_upto_region 22 with (go_at_call 22;(with_reducible refine HD12.out.mono ?_);rintro e w13 ⟨hb13,E2,hE2,rfl⟩)
    have hE2':(E2 != 0)=true:=by simpa using hE2
    have HB13:=Lib.hid (Below.trans' HBF.out hb13 HBF.out.size)
    clear hE2 hb13
    go_wp2_with fail
    go_ret
    exact⟨rfl,HB13.out.alloc HB13.out.size _⟩
end Go.Proofs.YtnjfkcimboidnaaDoor
