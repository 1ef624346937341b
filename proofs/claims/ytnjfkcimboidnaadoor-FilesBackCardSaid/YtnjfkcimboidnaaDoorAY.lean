/- Texts of mine that come as one: AddG AddAny. -/
import Derived.Test.YtnjfkcimboidnaaDoorAK
import Derived.Test.YtnjfkcimboidnaaDoorSO
/- The walk of base.Add, where nothing is wrong ahead. -/
namespace Go.Proofs.YtnjfkcimboidnaaDoor
open Go.RowKit
def AddGo (b:Ba) (s:ByteArray) (time value:Int) (B:Nat) (x:Ending) (w':World):Prop:=
 (∃E,E=1∧x = .returned (.tuple #[zeroB, .int .i64 E])∧(addE b s time value=1∨(addE b s time value=0∧∃k,k<3∧3001<wtT (b.tree k)))) ∨
 (addE b s time value=0∧∃b' sa sc g0 l0 p0 g1 l1 p1 g2 l2 p2,x = .returned (.tuple #[.agg (baCells sa b'.names.length sc g0 l0 p0 g1 l1 p1 g2 l2 p2 b'), .int .i64 0])∧(∀w'',Keep B w' w''→BaseAt w'' (.agg (baCells sa b'.names.length sc g0 l0 p0 g1 l1 p1 g2 l2 p2 b')) b') ∧
  b'.names=addNames b s∧b'.floor=b.floor∧baseMay b'=true∧bookR b'=some (addL b s time value)∧∀k,k<3→wtT (b'.tree k)≤wtT (b.tree k)+1)
theorem addE_one {b:Ba} {s:ByteArray} {time value:Int} (h:addF b s time value=0):addE b s time value=0∨addE b s time value=1:=by
 unfold addE
 rw [if_neg (by simp [h])]
 split
 ·exact .inl rfl
 ·split
  ·exact .inr rfl
  ·split
   ·exact .inr rfl
   ·exact .inl rfl
theorem add_err {b:Ba} {s:ByteArray} {time value:Int} {l:List Ent} {k:Nat} {B:Nat} {w':World} {so:Option Addr} {n c:Nat} {rt E2:Int} (hF:addF b s time value=0) (hl:bookR b=some l) (hk:k<3)
  (h:PutForm B (b.tree k) (addK b s time value k).key (addK b s time value k).is w' so n c rt E2) (h0:E2≠0):E2=1∧(addE b s time value=1∨(addE b s time value=0∧∃k,k<3∧3001<wtT (b.tree k))):=by
 rcases h with ⟨h1,h2⟩|⟨h1,t2,h2,l2,g1,g2,g3,⟨g4,-⟩|⟨g4,g5⟩⟩
 ·rcases (putE_add hF hl hk).1 with ⟨p1,-⟩|⟨p1,p2⟩
  ·exact absurd p1 h1
  ·exact⟨h2.trans p1, .inl (addE_bad hF hl hk p2)⟩
 ·exact absurd g4 h0
 ·refine⟨g4,(addE_one hF).symm.imp id fun h=>⟨h,k,hk,?_⟩⟩
  have:=g1.grown g5
  omega
theorem add_ok {b:Ba} {s:ByteArray} {time value:Int} {l:List Ent} {k:Nat} {B:Nat} {w':World} {so:Option Addr} {n c:Nat} {rt:Int} (hF:addF b s time value=0) (hl:bookR b=some l) (hk:k<3)
  (h:PutForm B (b.tree k) (addK b s time value k).key (addK b s time value k).is w' so n c rt 0):∃t',(∀w'',Keep B w' w''→TreeAt w'' (.agg #[.slice so n c, .int .i64 rt]) t')∧treeFault t'=0∧Eqv t'.all (addK b s time value k::(b.tree k).all)∧wtT t'≤wtT (b.tree k)+1∧Small (addK b s time value k::(b.tree k).all):=by
 rcases h with ⟨h1,h2⟩|⟨h1,t2,h2,l2,g1,g2,g3,⟨-,g5,-,g7⟩|⟨g4,g5⟩⟩
 ·omega
 ·refine⟨t2,g7,g5,g2,g3,?_⟩
  rcases (putE_add hF hl hk).1 with ⟨-,p2⟩|⟨p1,p2⟩
  ·exact p2
  ·have:(1:Int)=0:=p1.symm.trans h1
   omega
 ·omega
set_option maxRecDepth 100000 in
set_option maxHeartbeats 4000000 in
theorem add_full {sa:Option Addr} {sc:Nat} {g0:Option Addr} {l0 p0:Nat} {g1:Option Addr} {l1 p1:Nat} {g2:Option Addr} {l2 p2:Nat} {b:Ba} {s:ByteArray} {time value:Int} {w:World} (h:BaseAt w (.agg (baCells sa b.names.length sc g0 l0 p0 g1 l1 p1 g2 l2 p2 b)) b)
  (hst:∀s∈b.names,s.size≤140737488351232) (hss:s.size≤140737488351232) (hsz:SizesAt w) (hm:baseMay b=true) (hn:nameMay s=true) (hr:0≤time∧time≤1048575∧-1000000≤value∧value≤1000000) (hf:b.floor≤time) (hp:placeI b.names s = -1) (h16:b.names.length=16) :
  Calls Tryd.prog 51 #[.agg (baCells sa b.names.length sc g0 l0 p0 g1 l1 p1 g2 l2 p2 b), .agg #[.string s, .int .i64 time, .int .i64 value]] w fun x w'=>Below w.heap.size w w'∧x = .returned (.tuple #[zeroB, .int .i64 1]):=by
 obtain⟨W0,hW0⟩:∃W0,W0=((w.alloc (.cells (baCells sa b.names.length sc g0 l0 p0 g1 l1 p1 g2 l2 p2 b) 35)).alloc (.cells #[.string s, .int .i64 time, .int .i64 value] 76)).alloc (.cells zeroBC 35):=⟨_,rfl⟩
 have h0:AddAt w (baCells sa b.names.length sc g0 l0 p0 g1 l1 p1 g2 l2 p2 b) s time value W0:=by
  refine⟨by rw [hW0];exact belowAuto,by rw [hW0];simp,?_,?_,?_⟩
  ·rw [hW0,Below.heap_alloc _ _ _ (by simp;omega),Below.heap_alloc _ _ _ (by simp)];exact heap_new _ _ rfl
  ·rw [hW0,Below.heap_alloc _ _ _ (by simp)];exact heap_new _ _ (by simp)
  ·rw [hW0];exact heap_new _ _ (by simp)
 have HP0:=Lib.hid h0
 have z0:=h0.size
 have HCK:=Lib.hid (baseCheck_any (h.below h0.below) hst (hsz.below h0.below))
 have HNM:=Lib.hid fun w'=>name_any s w' hss
 have HRO:=Lib.hid fun w'=>of_any time value w'
 rw [checkE_yes hm]at HCK
 rw [hn]at HNM
 rw [show rollOf time value=(⟨1,value,value,value,time,value⟩,0)from if_pos hr]at HRO
 have HH:=Lib.hid (show BaseAt w (.agg (baCells sa b.names.length sc g0 l0 p0 g1 l1 p1 g2 l2 p2 b)) b from h)
 have H16:=Lib.hid (And.intro hp h16)
 clear hm hn hr hp h16
 obtain⟨y0,y1,y2,y3,y4,y5,y6,y7,yf⟩:=h0.bs
 clear h hst hss hsz h0
 go_enter Tryd.func51,Tryd.ntmps51
 go_upto_region 1 with (fail)
 rw [←hW0]
 clear hW0
 go_upto_region 7 with (first|(go_at_call 26;(with_reducible refine HCK.out.mono ?_);rintro e w1 ⟨rfl,hb1⟩;have HP1:=Lib.hid (HP0.out.later hb1 z0);have z1:=HP1.out.size;clear y0 y1 y2 y3 y4 y5 y6 y7 yf;obtain⟨y0,y1,y2,y3,y4,y5,y6,y7,yf⟩:=HP1.out.bs;obtain⟨q0,q1,q2⟩:=HP1.out.pts;obtain⟨r0,r1,r2,r3,r4,r5,r6,r7,rf⟩:=HP1.out.zs;clear hb1)|(go_at_call 53;(with_reducible refine(HNM.out w1).mono ?_);rintro e w2 ⟨rfl,hb2⟩;have HP2:=Lib.hid (HP1.out.later hb2 z1);have z2:=HP2.out.size;clear y0 y1 y2 y3 y4 y5 y6 y7 yf q0 q1 q2 r0 r1 r2 r3 r4 r5 r6 r7 rf;obtain⟨y0,y1,y2,y3,y4,y5,y6,y7,yf⟩:=HP2.out.bs;obtain⟨q0,q1,q2⟩:=HP2.out.pts;obtain⟨r0,r1,r2,r3,r4,r5,r6,r7,rf⟩:=HP2.out.zs;clear hb2)|(go_at_call 18;(with_reducible refine(HRO.out w2).mono ?_);rintro e w3 ⟨rfl,hb3⟩))
 obtain⟨W3,hW3⟩:∃W3,W3=w3.alloc (.cells #[.int .i64 1, .int .i64 value, .int .i64 value, .int .i64 value, .int .i64 time, .int .i64 value] 42):=⟨_,rfl⟩
 have HB3:=Lib.hid (show Below w2.heap.size w2 W3 from by rw [hW3];exact Below.trans' hb3 ((Below.refl _ _).alloc (Nat.le_refl _) _) hb3.size)
 have HP3:=Lib.hid (HP2.out.later HB3.out z2)
 have zz3:W3.heap.size=w3.heap.size+1:=by rw [hW3];simp
 have z3:w.heap.size+3≤w3.heap.size:=by have:=hb3.size;omega
 have HR3:=Lib.hid (show W3.heap[w3.heap.size]?=some (.cells #[.int .i64 1, .int .i64 value, .int .i64 value, .int .i64 value, .int .i64 time, .int .i64 value] 42) by rw [hW3];exact heap_new _ _ rfl)
 rw [←hW3]
 clear hW3 hb3 y0 y1 y2 y3 y4 y5 y6 y7 yf q0 q1 q2 r0 r1 r2 r3 r4 r5 r6 r7 rf
 obtain⟨y0,y1,y2,y3,y4,y5,y6,y7,yf⟩:=HP3.out.bs
 obtain⟨q0,q1,q2⟩:=HP3.out.pts
 obtain⟨r0,r1,r2,r3,r4,r5,r6,r7,rf⟩:=HP3.out.zs
 have HCP:=Lib.hid (baseCopy_keep (HH.out.below HP3.out.below))
 go_upto_region 12 with ((go_at_call 63;(with_reducible refine HCP.out.mono ?_);rintro e w4 ⟨hb4,sn,sc',a0,m0,n0,a1,m1,n1,a2,m2,n2,rfl,hown,M,hM1,hM2,hM3,hnod,hba⟩;have hP4:=HP3.out.later hb4 (by omega);have HP4:=Lib.hid hP4;have HB4:=Lib.hid hb4;have HNB:=Lib.hid (And.intro hown (And.intro hM3 (And.intro hnod hba)));have hz4:=hb4.size;clear hown hM3 hnod hba hb4 hP4 y0 y1 y2 y3 y4 y5 y6 y7 yf q0 q1 q2 r0 r1 r2 r3 r4 r5 r6 r7 rf;obtain⟨y0,y1,y2,y3,y4,y5,y6,y7,yf⟩:=HP4.out.bs))
 obtain⟨W5,hW5⟩:∃W5,W5=(((((((w4.setCell ⟨w.heap.size,0,none⟩ (.slice sn b.names.length sc')).setCell ⟨w.heap.size,1,none⟩ (.slice a0 m0 n0)).setCell ⟨w.heap.size,2,none⟩ (.int .i64 b.t0.root)).setCell ⟨w.heap.size,3,none⟩ (.slice a1 m1 n1)).setCell ⟨w.heap.size,4,none⟩ (.int .i64 b.t1.root)).setCell ⟨w.heap.size,5,none⟩ (.slice a2 m2 n2)).setCell ⟨w.heap.size,6,none⟩ (.int .i64 b.t2.root)).setCell ⟨w.heap.size,7,none⟩ (.int .i64 b.floor):=⟨_,rfl⟩
 have h5o:∀q,q≠w.heap.size→W5.heap[q]?=w4.heap[q]?:=fun q hq=>by rw [hW5];exact heap_set8_other hq
 have h5s:W5.heap.size=w4.heap.size:=by rw [hW5];simp only [heap_setCell_size]
 have h5b:Below w.heap.size w W5:=by
  have:=HP4.out.below
  rw [hW5]
  exact(((((((this.setCell (Nat.le_refl _) _).setCell (Nat.le_refl _) _).setCell (Nat.le_refl _) _).setCell (Nat.le_refl _) _).setCell (Nat.le_refl _) _).setCell (Nat.le_refl _) _).setCell (Nat.le_refl _) _).setCell (Nat.le_refl _) _
 have HP5:=Lib.hid (show AddAt w #[.slice sn b.names.length sc', .slice a0 m0 n0, .int .i64 b.t0.root, .slice a1 m1 n1, .int .i64 b.t1.root, .slice a2 m2 n2, .int .i64 b.t2.root, .int .i64 b.floor] s time value W5 from
  ⟨h5b,by rw [h5s];exact HP4.out.size,by rw [hW5];exact heap_set8 HP4.out.box,(h5o _ (by omega)).trans HP4.out.pt,(h5o _ (by omega)).trans HP4.out.res⟩)
 have HK5:=Lib.hid (show ∀N,w.heap.size<N→Keep N w4 W5 from fun N hN=>⟨by omega,fun q hq _=>h5o q (by omega)⟩)
 have HR5:=Lib.hid (show W5.heap[w3.heap.size]?=some (.cells #[.int .i64 1, .int .i64 value, .int .i64 value, .int .i64 value, .int .i64 time, .int .i64 value] 42)from (h5o _ (by omega)).trans ((HB4.out.block _ (by omega)).trans HR3.out))
 have HIX:=Lib.hid (indexStr_any (s:=s) (w:=W5) (v:= .slice sn b.names.length sc') (xs:=b.names) (by
  obtain⟨nv,x0,x1,x2,e,hs,-⟩:=HNB.out.2.2.2 W5 (HK5.out _ (by omega))
  have e:=congrArg (fun v=>match v with | .agg a=>a[0]?|_=>none) e
  simp at e
  rw [e];exact hs))
 rw [←hW5]
 clear hW5 h5o h5b y0 y1 y2 y3 y4 y5 y6 y7 yf
 obtain⟨y0,y1,y2,y3,y4,y5,y6,y7,yf⟩:=HP5.out.bs
 obtain⟨q0,q1,q2⟩:=HP5.out.pts
 obtain⟨hp,h16⟩:=H16.out
 rw [hp]at HIX
 have hb16:((b.names.length:Int) == 16)=true:=by simp [h16]
 clear hp h16
 go_wp2_with ((go_at_call 78;(with_reducible refine HIX.out.mono ?_);rintro e w6 ⟨rfl,hb6⟩;have HP6:=Lib.hid (HP5.out.later hb6 HP5.out.size);obtain⟨y0',y1',y2',y3',y4',y5',y6',y7',yf'⟩:=HP6.out.bs;obtain⟨r0,r1,r2,r3,r4,r5,r6,r7,rf⟩:=HP6.out.zs))
 have hbw:=HP6.out.below
 exact bodyPost_ret (v:= .tuple #[zeroB, .int .i64 1]) (by simp [results,Tryd.results51,go_sem, *]) rfl ⟨belowAuto,rfl⟩
set_option maxRecDepth 100000 in
set_option maxHeartbeats 4000000 in
theorem add_go {sa:Option Addr} {sc:Nat} {g0:Option Addr} {l0 p0:Nat} {g1:Option Addr} {l1 p1:Nat} {g2:Option Addr} {l2 p2:Nat} {b:Ba} {s:ByteArray} {time value:Int} {w:World} (h:BaseAt w (.agg (baCells sa b.names.length sc g0 l0 p0 g1 l1 p1 g2 l2 p2 b)) b)
  (hst:∀s∈b.names,s.size≤140737488351232) (hss:s.size≤140737488351232) (hsz:SizesAt w) (hF:addF b s time value=0) :
  Calls Tryd.prog 51 #[.agg (baCells sa b.names.length sc g0 l0 p0 g1 l1 p1 g2 l2 p2 b), .agg #[.string s, .int .i64 time, .int .i64 value]] w fun x w'=>Below w.heap.size w w'∧AddGo b s time value w.heap.size x w':=by
 obtain⟨W0,hW0⟩:∃W0,W0=((w.alloc (.cells (baCells sa b.names.length sc g0 l0 p0 g1 l1 p1 g2 l2 p2 b) 35)).alloc (.cells #[.string s, .int .i64 time, .int .i64 value] 76)).alloc (.cells zeroBC 35):=⟨_,rfl⟩
 have h0:AddAt w (baCells sa b.names.length sc g0 l0 p0 g1 l1 p1 g2 l2 p2 b) s time value W0:=by
  refine⟨by rw [hW0];exact belowAuto,by rw [hW0];simp,?_,?_,?_⟩
  ·rw [hW0,Below.heap_alloc _ _ _ (by simp;omega),Below.heap_alloc _ _ _ (by simp)];exact heap_new _ _ rfl
  ·rw [hW0,Below.heap_alloc _ _ _ (by simp)];exact heap_new _ _ (by simp)
  ·rw [hW0];exact heap_new _ _ (by simp)
 have HP0:=Lib.hid h0
 have z0:=h0.size
 have HCK:=Lib.hid (baseCheck_any (h.below h0.below) hst (hsz.below h0.below))
 have HNM:=Lib.hid fun w'=>name_any s w' hss
 have HRO:=Lib.hid fun w'=>of_any time value w'
 obtain⟨hm,hn,hro,ht0,ht1,hv0,hv1,hfl,hi0,hi1,hnl⟩:=addF_ok hF
 rw [checkE_yes hm]at HCK
 rw [hn]at HNM
 rw [hro]at HRO
 have HF:=Lib.hid hF
 have HH:=Lib.hid (show BaseAt w (.agg (baCells sa b.names.length sc g0 l0 p0 g1 l1 p1 g2 l2 p2 b)) b∧SizesAt w from ⟨h,hsz⟩)
 have HNL:=Lib.hid hnl
 clear hm hn hro hF hnl hv0 hv1
 obtain⟨y0,y1,y2,y3,y4,y5,y6,y7,yf⟩:=h0.bs
 clear h hst hss hsz h0
 go_enter Tryd.func51,Tryd.ntmps51
 go_upto_region 1 with (fail)
 rw [←hW0]
 clear hW0
 go_upto_region 7 with (first|(go_at_call 26;(with_reducible refine HCK.out.mono ?_);rintro e w1 ⟨rfl,hb1⟩;have HP1:=Lib.hid (HP0.out.later hb1 z0);have z1:=HP1.out.size;clear y0 y1 y2 y3 y4 y5 y6 y7 yf;obtain⟨y0,y1,y2,y3,y4,y5,y6,y7,yf⟩:=HP1.out.bs;obtain⟨q0,q1,q2⟩:=HP1.out.pts;obtain⟨r0,r1,r2,r3,r4,r5,r6,r7,rf⟩:=HP1.out.zs;clear hb1)|(go_at_call 53;(with_reducible refine(HNM.out w1).mono ?_);rintro e w2 ⟨rfl,hb2⟩;have HP2:=Lib.hid (HP1.out.later hb2 z1);have z2:=HP2.out.size;clear y0 y1 y2 y3 y4 y5 y6 y7 yf q0 q1 q2 r0 r1 r2 r3 r4 r5 r6 r7 rf;obtain⟨y0,y1,y2,y3,y4,y5,y6,y7,yf⟩:=HP2.out.bs;obtain⟨q0,q1,q2⟩:=HP2.out.pts;obtain⟨r0,r1,r2,r3,r4,r5,r6,r7,rf⟩:=HP2.out.zs;clear hb2)|(go_at_call 18;(with_reducible refine(HRO.out w2).mono ?_);rintro e w3 ⟨rfl,hb3⟩))
 obtain⟨W3,hW3⟩:∃W3,W3=w3.alloc (.cells #[.int .i64 1, .int .i64 value, .int .i64 value, .int .i64 value, .int .i64 time, .int .i64 value] 42):=⟨_,rfl⟩
 have HB3:=Lib.hid (show Below w2.heap.size w2 W3 from by rw [hW3];exact Below.trans' hb3 ((Below.refl _ _).alloc (Nat.le_refl _) _) hb3.size)
 have HP3:=Lib.hid (HP2.out.later HB3.out z2)
 have zz3:W3.heap.size=w3.heap.size+1:=by rw [hW3];simp
 have z3:w.heap.size+3≤w3.heap.size:=by have:=hb3.size;omega
 have HR3:=Lib.hid (show W3.heap[w3.heap.size]?=some (.cells #[.int .i64 1, .int .i64 value, .int .i64 value, .int .i64 value, .int .i64 time, .int .i64 value] 42) by rw [hW3];exact heap_new _ _ rfl)
 rw [←hW3]
 clear hW3 hb3 y0 y1 y2 y3 y4 y5 y6 y7 yf q0 q1 q2 r0 r1 r2 r3 r4 r5 r6 r7 rf
 obtain⟨y0,y1,y2,y3,y4,y5,y6,y7,yf⟩:=HP3.out.bs
 obtain⟨q0,q1,q2⟩:=HP3.out.pts
 obtain⟨r0,r1,r2,r3,r4,r5,r6,r7,rf⟩:=HP3.out.zs
 have HCP:=Lib.hid (baseCopy_keep (HH.out.1.below HP3.out.below))
 go_upto_region 12 with ((go_at_call 63;(with_reducible refine HCP.out.mono ?_);rintro e w4 ⟨hb4,sn,sc',a0,m0,n0,a1,m1,n1,a2,m2,n2,rfl,hown,M,hM1,hM2,hM3,hnod,hba⟩;have hP4:=HP3.out.later hb4 (by omega);have HP4:=Lib.hid hP4;have HB4:=Lib.hid hb4;have HNB:=Lib.hid (And.intro hown (And.intro hM3 (And.intro hnod hba)));have hz4:=hb4.size;clear hown hM3 hnod hba hb4 hP4 y0 y1 y2 y3 y4 y5 y6 y7 yf q0 q1 q2 r0 r1 r2 r3 r4 r5 r6 r7 rf;obtain⟨y0,y1,y2,y3,y4,y5,y6,y7,yf⟩:=HP4.out.bs))
 obtain⟨W5,hW5⟩:∃W5,W5=(((((((w4.setCell ⟨w.heap.size,0,none⟩ (.slice sn b.names.length sc')).setCell ⟨w.heap.size,1,none⟩ (.slice a0 m0 n0)).setCell ⟨w.heap.size,2,none⟩ (.int .i64 b.t0.root)).setCell ⟨w.heap.size,3,none⟩ (.slice a1 m1 n1)).setCell ⟨w.heap.size,4,none⟩ (.int .i64 b.t1.root)).setCell ⟨w.heap.size,5,none⟩ (.slice a2 m2 n2)).setCell ⟨w.heap.size,6,none⟩ (.int .i64 b.t2.root)).setCell ⟨w.heap.size,7,none⟩ (.int .i64 b.floor):=⟨_,rfl⟩
 have h5o:∀q,q≠w.heap.size→W5.heap[q]?=w4.heap[q]?:=fun q hq=>by rw [hW5];exact heap_set8_other hq
 have h5s:W5.heap.size=w4.heap.size:=by rw [hW5];simp only [heap_setCell_size]
 have h5b:Below w.heap.size w W5:=by
  have:=HP4.out.below
  rw [hW5]
  exact(((((((this.setCell (Nat.le_refl _) _).setCell (Nat.le_refl _) _).setCell (Nat.le_refl _) _).setCell (Nat.le_refl _) _).setCell (Nat.le_refl _) _).setCell (Nat.le_refl _) _).setCell (Nat.le_refl _) _).setCell (Nat.le_refl _) _
 have HP5:=Lib.hid (show AddAt w #[.slice sn b.names.length sc', .slice a0 m0 n0, .int .i64 b.t0.root, .slice a1 m1 n1, .int .i64 b.t1.root, .slice a2 m2 n2, .int .i64 b.t2.root, .int .i64 b.floor] s time value W5 from
  ⟨h5b,by rw [h5s];exact HP4.out.size,by rw [hW5];exact heap_set8 HP4.out.box,(h5o _ (by omega)).trans HP4.out.pt,(h5o _ (by omega)).trans HP4.out.res⟩)
 have HK5:=Lib.hid (show ∀N,w.heap.size<N→Keep N w4 W5 from fun N hN=>⟨by omega,fun q hq _=>h5o q (by omega)⟩)
 have HR5:=Lib.hid (show W5.heap[w3.heap.size]?=some (.cells #[.int .i64 1, .int .i64 value, .int .i64 value, .int .i64 value, .int .i64 time, .int .i64 value] 42)from (h5o _ (by omega)).trans ((HB4.out.block _ (by omega)).trans HR3.out))
 have HIX:=Lib.hid (indexStr_any (s:=s) (w:=W5) (v:= .slice sn b.names.length sc') (xs:=b.names) (by
  obtain⟨nv,x0,x1,x2,e,hs,-⟩:=HNB.out.2.2.2 W5 (HK5.out _ (by omega))
  have e:=congrArg (fun v=>match v with | .agg a=>a[0]?|_=>none) e
  simp at e
  rw [e];exact hs))
 rw [←hW5]
 clear hW5 h5o h5b y0 y1 y2 y3 y4 y5 y6 y7 yf
 obtain⟨y0,y1,y2,y3,y4,y5,y6,y7,yf⟩:=HP5.out.bs
 obtain⟨q0,q1,q2⟩:=HP5.out.pts
 go_upto_region 13 with ((go_at_call 78;(with_reducible refine HIX.out.mono ?_);rintro e w6 ⟨rfl,hb6⟩))
 have HB6:=Lib.hid hb6
 have HP6:=Lib.hid (HP5.out.later hb6 HP5.out.size)
 have z6:=hb6.size
 clear hb6 y0 y1 y2 y3 y4 y5 y6 y7 yf q0 q1 q2
 obtain⟨y0,y1,y2,y3,y4,y5,y6,y7,yf⟩:=HP6.out.bs
 obtain⟨q0,q1,q2⟩:=HP6.out.pts
 have hn16:b.names.length≤16:=(baseMay_ok (addF_ok HF.out).1).n16
 have hK6:∀N,w.heap.size<N→Keep N w4 w6:=fun N hN=>(HK5.out N hN).trans ⟨HB6.out.size,fun q _ hq=>HB6.out.block q hq⟩
 have HOW:=Lib.hid (show w6.ownsRow (W3.heap.size+2) 9 1 (.slice sn b.names.length sc') b.names.length (b.names.flatMap enStr)from owns_keep HNB.out.1 (hK6 _ (by omega)) (Nat.le_refl _))
 have HK6:=Lib.hid hK6
 have HR6:=Lib.hid ((HB6.out.block _ (by have:=HR5.out;exact(Array.getElem?_eq_some_iff.1 this).1)).trans HR5.out)
 clear hK6
 go_upto_if 51 with (fail)
 go_cut [9] (fun i wx=>∃(sn9:Option Addr) (sc9:Nat),i = .int .i64 (addI b s)∧Hid (AddAt w #[.slice sn9 (addNames b s).length sc9, .slice a0 m0 n0, .int .i64 b.t0.root, .slice a1 m1 n1, .int .i64 b.t1.root, .slice a2 m2 n2, .int .i64 b.t2.root, .int .i64 b.floor] s time value wx∧Keep M w4 wx∧wx.heap[w3.heap.size]?=some (.cells #[.int .i64 1, .int .i64 value, .int .i64 value, .int .i64 value, .int .i64 time, .int .i64 value] 42) ∧
  wx.ownsRow (W3.heap.size+2) 9 1 (.slice sn9 (addNames b s).length sc9) (addNames b s).length ((addNames b s).flatMap enStr)))
 case first=>
  rcases place_cases b.names s with ⟨pk,hpk,hp,-⟩|⟨hp,-⟩
  ·have HA:=Lib.hid (show addI b s=pk∧addNames b s=b.names from ⟨by unfold addI;rw [hp,if_neg (by omega)],by unfold addNames;rw [hp,if_neg (by omega)]⟩)
   rw [hp]
   clear hp
   go_wp2_with fail
   go_meet
   rw [HA.out.1,HA.out.2]
   exact⟨sn,sc',rfl,Lib.hid ⟨HP6.out,HK6.out _ (by omega),HR6.out,HOW.out⟩⟩
  ·have HA:=Lib.hid (show addI b s=b.names.length∧addNames b s=b.names++[s]from ⟨by unfold addI;rw [hp,if_pos (by omega)],by unfold addNames;rw [hp,if_pos (by omega)]⟩)
   have hlt16:=HNL.out (by rw [hp];decide)
   rw [hp]
   clear hp
   obtain⟨W7,hW7⟩:∃W7,W7=w6.alloc (.cells #[.string s] 9):=⟨_,rfl⟩
   have hb7:Below w6.heap.size w6 W7:=by rw [hW7];exact belowAuto
   have k7:W7.heap[w6.heap.size]?=some (.cells #[.string s] 9):=by rw [hW7];exact heap_new _ _ rfl
   have hz7:W7.heap.size=w6.heap.size+1:=by rw [hW7];simp
   have HOW7:=Lib.hid (owns_below HOW.out hb7)
   have HP7:=Lib.hid (HP6.out.later hb7 (by have:=HP6.out.size;omega))
   have c7:W7.cell? ⟨w6.heap.size,0,none⟩=some (.string s):=by simp [World.cell?,k7]
   have hne:(b.names.length:Int)≠16:=by omega
   have hnb:((b.names.length:Int) == 16)=false:=by simp;omega
   have HB7:=Lib.hid hb7
   have HG8:=Lib.hid fun(w8:World) (hg8:W7.grownBy w8 (Value.slice sn b.names.length sc').ownBlock)=>(by
    have hq:∀q,q<W3.heap.size+2→w8.heap[q]?=W7.heap[q]?:=fun q hq=>hg8.block q (by have:=HP7.out.size;omega) (fun e=>by have:=(HOW7.out.lt q e.symm).1;omega)
    have h7:=HP7.out
    refine⟨⟨Below.grown h7.below hg8 h7.below.size (fun j hj=>by have:=(HOW7.out.lt j hj).1;omega),by have:=hg8.size;have:=h7.size;omega,(hq _ (by omega)).trans h7.box,(hq _ (by omega)).trans h7.pt,(hq _ (by omega)).trans h7.res⟩,(hq _ (by omega)).trans ((HB7.out.block _ (by have:=(Array.getElem?_eq_some_iff.1 HR6.out).1;omega)).trans HR6.out),((HK6.out M (by omega)).trans (Keep.of HB7.out (Nat.le_refl _))).trans ⟨hg8.size,fun q hqM hq=>hg8.block q hq fun e=>by have:=HNB.out.2.1 q e.symm;omega⟩⟩ :
    AddAt w #[.slice sn b.names.length sc', .slice a0 m0 n0, .int .i64 b.t0.root, .slice a1 m1 n1, .int .i64 b.t1.root, .slice a2 m2 n2, .int .i64 b.t2.root, .int .i64 b.floor] s time value w8∧w8.heap[w3.heap.size]?=some (.cells #[.int .i64 1, .int .i64 value, .int .i64 value, .int .i64 value, .int .i64 time, .int .i64 value] 42)∧Keep M w4 w8)
   clear hb7 k7
   go_wp2_with ((at_builtin;refine wpList_append_str1 rfl (.tmp 59) (.tmp 62) rfl (W3.heap.size+2) (.slice sn b.names.length sc') b.names rfl (hW7▸HOW7.out) ⟨w6.heap.size,0,none⟩ s rfl (hW7▸c7) (by omega) (by simp;omega) ?_;rw [←hW7];intro v8 w8 own8 hg8 hv8;obtain⟨s8,c8,rfl⟩:=owns_slice own8;have hg88:=HG8.out _ hg8;obtain⟨hcc8,-,-,-,-,-,-,-,hfz8⟩:=hg88.1.bs))
   go_meet
   obtain⟨hA8,hR8,hK8⟩:=hg88
   rw [HA.out.1,HA.out.2]
   have hl1:(b.names++[s]).length=b.names.length+1:=by simp
   rw [hl1]
   have hne8:∀q,q≠w.heap.size→(w8.setCell ⟨w.heap.size,0,none⟩ (.slice s8 (b.names.length+1) c8)).heap[q]?=w8.heap[q]?:=fun q hq=>heap_setCell_other _ ⟨w.heap.size,_,none⟩ q _ hq
   refine⟨s8,c8,rfl,Lib.hid ⟨⟨hA8.below.setCell (Nat.le_refl _) _,by simp only [heap_setCell_size];exact hA8.size,?_,(hne8 _ (by omega)).trans hA8.pt,(hne8 _ (by omega)).trans hA8.res⟩,hK8.set (by show w.heap.size<M;omega) _,(hne8 _ (by omega)).trans hR8,owns_setOther own8 (by omega) _⟩⟩
   have:=heap_setCell_same (off:=0) (v:= .slice s8 (b.names.length+1) c8) hA8.box
   simpa using this
 case rest=>
  obtain⟨sn9,sc9,rfl,HC⟩:=hcut
  have hl16:(addNames b s).length≤17:=by
   unfold addNames
   split
   ·rw [List.length_append,List.length_singleton];omega
   ·omega
  have HST:=Lib.hid (show AddK w b s time value w3.heap.size 0 sn9 sc9 a0 m0 n0 b.t0.root a1 m1 n1 b.t1.root a2 m2 n2 b.t2.root (fun j=>b.tree j) wc from by
   obtain⟨c1,c2,c3,c4⟩:=HC.out
   have hn:=HNB.out.2.2.1
   exact⟨c1,c3,z3,fun w'' hk=>SlAt.owned enStr_length (owns_keep c4 hk (by omega)) rfl (by omega),fun w'' hk=>⟨_,rfl,(hn w'' (c2.trans (hk.mono (by omega)))).1⟩,fun w'' hk=>⟨_,rfl,(hn w'' (c2.trans (hk.mono (by omega)))).2.1⟩,fun w'' hk=>⟨_,rfl,(hn w'' (c2.trans (hk.mono (by omega)))).2.2⟩,fun j hj=>by omega,fun j _ _=>rfl⟩)
  obtain⟨l,hl⟩:∃l,bookR b=some l:=by obtain⟨l,hl,-⟩:=base_trees (addF_ok HF.out).1;exact⟨l,hl⟩
  have HL:=Lib.hid hl
  obtain⟨-,s0,s1,s2⟩:=HH.out.2.below HST.out.at'.below
  clear HC HNB HOW HK6 HR6 HB6 HP6 HIX HR5 HK5 HP5 HB4 HP4 HCP HR3 HP3 HB3 HP2 HP1 HP0 HCK HNM HRO hl HNL hn16 y0 y1 y2 y3 y4 y5 y6 y7 yf q0 q1 q2
  obtain⟨rb,hrb⟩:∃rb,w3.heap.size=rb:=⟨_,rfl⟩
  rw [hrb]at HST ⊢
  clear hrb
  obtain⟨I,hI⟩:∃I,addI b s=I:=⟨_,rfl⟩
  rw [hI]at hi0 hi1
  rw [hI]
  have HI:=Lib.hid hI
  clear hI
  go_wp2_with fail
  clear s0 s1 s2
  go_loopg [66] 3 (fun g i wr=>∃k,k≤3∧g=3-k∧i = .int .i64 k∧Hid (∃sn sc g0 l0 p0 r0 g1 l1 p1 r1 g2 l2 p2 r2 T,AddK w b s time value rb k sn sc g0 l0 p0 r0 g1 l1 p1 r1 g2 l2 p2 r2 T wr))
  case atStart=>exact⟨0,by omega,rfl,rfl,Lib.hid ⟨_,_,_,_,_,_,_,_,_,_,_,_,_,_,_,HST.out⟩⟩
  case round=>
   clear HST
   obtain⟨k,hk,rfl,rfl,HR⟩:=hrel
   obtain⟨sn,sc,g0,l0,p0,r0,g1,l1,p1,r1,g2,l2,p2,r2,T,hA⟩:=HR.out
   by_cases hlt:k<3
   ·obtain rfl|rfl|rfl:k=0∨k=1∨k=2:=by omega
    ·have hTk:=hA.rest 0 (Nat.le_refl _) (by decide)
     have HTA:=Lib.hid (show ∀w'',Keep (w.heap.size+3) wr w''→TreeAt w'' (.agg #[.slice g0 l0 p0, .int .i64 r0]) (b.tree 0)from fun w'' hk=>by rw [←hTk];exact hA.t0 w'' hk)
     have hzr:=hA.at'.size
     obtain⟨y0,y1,y2,y3,y4,y5,y6,y7,yf⟩:=hA.at'.bs
     obtain⟨q0,q1,q2⟩:=hA.at'.pts
     have hrol:=hA.rol
     have hrl:=(Array.getElem?_eq_some_iff.1 hrol).1
     have HA:=Lib.hid hA
     have hiz:=idx_sizes0
     obtain⟨Q,hQ⟩:∃Q,time/1=Q:=⟨_,rfl⟩
     have hQ0:0≤Q∧Q≤1048575∧0≤Q∧Q≤time:=by rw [←hQ];omega
     have ht1:time.tdiv 1=Q:=by rw [Int.tdiv_eq_ediv_of_nonneg (by omega)];exact hQ
     have ht2:IntKind.i64.wrap Q=Q:=IntWalk.i64_in _ (by omega)
     have ht3:IntKind.i64.wrap (Q)=Q:=IntWalk.i64_in _ (by omega)
     have ht4:IntKind.i64.wrap (I*1048576)=I*1048576:=IntWalk.i64_in _ (by omega)
     have ht5:IntKind.i64.wrap (I*1048576+Q)=I*1048576+Q:=IntWalk.i64_in _ (by omega)
     have HKEY:=Lib.hid (show (addK b s time value 0).key=I*1048576+Q from by show addI b s*1048576+time/1*1=_;rw [HI.out,hQ];try rw [Int.mul_one])
     have HPU:=Lib.hid fun(W:World) (hb:Below wr.heap.size wr W)=>(by
      have h1:=treePut_form (w:=W) (key:=(addK b s time value 0).key) (r:=(addK b s time value 0).is) (HTA.out W (Keep.of hb (Nat.le_refl _))) (fun h0=>by
       rcases (putE_add HF.out HL.out (k:=0) (by decide)).1 with ⟨-,p2⟩|⟨p1,-⟩
       ·exact p2
       ·have:(0:Int)=1:=h0.symm.trans p1
        omega)
      have h2:(fun x w'=>Below W.heap.size W w'∧∃so n c rt E2,x=Ending.returned (.tuple #[.agg #[.slice so n c, .int .i64 rt], .int .i64 E2])∧PutForm W.heap.size (b.tree 0) (addK b s time value 0).key (addK b s time value 0).is w' so n c rt E2)=(fun x w'=>Below W.heap.size W w'∧∃so n c rt E2,x=Ending.returned (.tuple #[.agg #[.slice so n c, .int .i64 rt], .int .i64 E2])∧PutForm W.heap.size (b.tree 0) (addK b s time value 0).key (addK b s time value 0).is w' so n c rt E2):=rfl
      rw [HKEY.out]at h1
      rw [HKEY.out]
      exact h1:Calls Tryd.prog 48 #[.agg #[.slice g0 l0 p0, .int .i64 r0], .int .i64 (I*1048576+Q), .agg #[.int .i64 1, .int .i64 value, .int .i64 value, .int .i64 value, .int .i64 time, .int .i64 value]] W fun x w'=>Below W.heap.size W w'∧∃so n c rt E2,x = .returned (.tuple #[.agg #[.slice so n c, .int .i64 rt], .int .i64 E2])∧PutForm W.heap.size (b.tree 0) (addK b s time value 0).key (addK b s time value 0).is w' so n c rt E2)
     have HS:=Lib.hid fun(W:World) (hb:Below wr.heap.size wr W)=>(by
      have c:∀g o,g<wr.heap.size→W.cell? ⟨g,o,none⟩=wr.cell? ⟨g,o,none⟩:=fun g o h=>hb.cell (p:=⟨g,o,none⟩) h
      have hr:=(hb.block rb hrl).trans hrol
      exact⟨(c _ _ (by omega)).trans y1,(c _ _ (by omega)).trans y2,(c _ _ (by omega)).trans q1,by simp [World.cell?,hr],by simp [World.cell?,hr],by simp [World.cell?,hr],by simp [World.cell?,hr],by simp [World.cell?,hr],by simp [World.cell?,hr]⟩ :
      W.cell? ⟨w.heap.size,1,none⟩=some (.slice g0 l0 p0)∧W.cell? ⟨w.heap.size,2,none⟩=some (.int .i64 r0)∧W.cell? ⟨w.heap.size+1,1,none⟩=some (.int .i64 time)∧W.cell? ⟨rb,0,none⟩=some (.int .i64 1)∧W.cell? ⟨rb,1,none⟩=some (.int .i64 value)∧W.cell? ⟨rb,2,none⟩=some (.int .i64 value)∧W.cell? ⟨rb,3,none⟩=some (.int .i64 value)∧W.cell? ⟨rb,4,none⟩=some (.int .i64 time)∧W.cell? ⟨rb,5,none⟩=some (.int .i64 value))
     clear hA hTk hrol hQ HR HKEY HTA hi0 hi1 ht0 hfl
     go_upto_region 21 with (fail)
     clear y0 y1 y2 y3 y4 y5 y6 y7 yf q0 q1 q2 hiz
     go_cut [12,13] (fun p c wx=>∃(tb:Nat) (so:Option Addr) (n c6:Nat) (rt E2:Int),p = .pointer (some ⟨tb,0,none⟩)∧c = .int .i64 E2∧Hid (Below wr.heap.size wr wx∧wr.heap.size≤tb∧wx.heap[tb]?=some (.cells #[.slice so n c6, .int .i64 rt] 32)∧PutForm wr.heap.size (b.tree 0) (addK b s time value 0).key (addK b s time value 0).is wx so n c6 rt E2))
     case first=>
      have T0:Below wr.heap.size wr wr.drew:=(Below.refl _ _).drew
      refine wp_region_fork (Sch.of [(0,1),(1,1),(2,1),(3,0),(4,1),(5,1),(6,1),(7,0),(8,1),(9,1),(10,1),(11,1),(12,1),(13,0)] (.fork 14 18 (Sch.of [(15,1),(16,1),(17,1),(18,2),(19,3),(20,1)] .nil) (Sch.of [(14,2),(15,1),(16,1),(17,1),(19,3),(20,1)] .nil))) 19
       (fun W=>W.cell? ⟨w.heap.size,1,none⟩=some (.slice g0 l0 p0)∧W.cell? ⟨w.heap.size,2,none⟩=some (.int .i64 r0)∧W.cell? ⟨w.heap.size+1,1,none⟩=some (.int .i64 time)∧W.cell? ⟨rb,0,none⟩=some (.int .i64 1)∧W.cell? ⟨rb,1,none⟩=some (.int .i64 value)∧W.cell? ⟨rb,2,none⟩=some (.int .i64 value)∧W.cell? ⟨rb,3,none⟩=some (.int .i64 value)∧W.cell? ⟨rb,4,none⟩=some (.int .i64 time)∧W.cell? ⟨rb,5,none⟩=some (.int .i64 value)) (by kernel_rfl) (by kernel_rfl) (HS.out _ T0) ?_
      simp only [Sch.of]
      (repeat (first|((refine fork_pure (v:=?_) rfl rfl (fun W=>?_) ?_);rotate_left;focus (go_simp;(try with_reducible rfl);done))|((refine fork_read (v:=?_) rfl rfl (fun W hW=>?_) ?_);rotate_left;focus ((try dsimp only at hW);go_simp;(try with_reducible rfl);done))))
      refine fork_both rfl rfl rfl rfl (fun K hK=>?_) (fun K hK=>?_)
      ·go_simp
       (with_reducible refine(HPU.out _ T0).mono ?_);rintro x w6 ⟨hb6,so,n6,c6,rt,E2,rfl,hpf⟩
       have B6:Below wr.heap.size wr w6:=Below.trans' T0 hb6 (Nat.le_refl _)
       go_simp
       refine hK _ _ (HS.out _ B6) ?_
       clear hK K T0
       (repeat (first|((refine fork_pure (v:=?_) rfl rfl (fun W=>?_) ?_);rotate_left;focus (go_simp;(try with_reducible rfl);done))|((refine fork_read (v:=?_) rfl rfl (fun W hW=>?_) ?_);rotate_left;focus ((try dsimp only at hW);go_simp;(try with_reducible rfl);done))))
       refine fork_does rfl rfl (fun K hK=>?_)
       go_simp
       obtain⟨W7,hW7⟩:∃W7,W7=w6.alloc (.cells #[.slice none 0 0, .int .i64 0] 32):=⟨_,rfl⟩
       have hb7:Below w6.heap.size w6 W7:=by rw [hW7];exact belowAuto
       have k7:W7.heap[w6.heap.size]?=some (.cells #[.slice none 0 0, .int .i64 0] 32):=by rw [hW7];exact heap_new _ _ rfl
       have B7:Below wr.heap.size wr W7:=Below.trans' B6 hb7 B6.size
       rw [←hW7]
       refine hK _ _ (HS.out _ B7) ?_
       clear hK K hW7
       have d0:W7.cell? ⟨w6.heap.size,0,none⟩=some (.slice none 0 0):=by simp [World.cell?,k7]
       have d1:W7.cell? ⟨w6.heap.size,1,none⟩=some (.int .i64 0):=by simp [World.cell?,k7]
       have df:∀o,W7.frozen? ⟨w6.heap.size,o,none⟩=false:=fun o=>by simp [World.frozen?,k7]
       (repeat (first|((refine fork_pure (v:=?_) rfl rfl (fun W=>?_) ?_);rotate_left;focus (go_simp;(try with_reducible rfl);done))|((refine fork_read (v:=?_) rfl rfl (fun W hW=>?_) ?_);rotate_left;focus ((try dsimp only at hW);go_simp;(try with_reducible rfl);done))))
       refine fork_last rfl rfl (fun K hK=>?_)
       go_simp
       refine hK _ _ ?_
       clear hK K
       (repeat (first|((refine fork_pure (v:=?_) rfl rfl (fun W=>?_) ?_);rotate_left;focus (go_simp;(try with_reducible rfl);done))|((refine fork_read (v:=?_) rfl rfl (fun W hW=>?_) ?_);rotate_left;focus ((try dsimp only at hW);go_simp;(try with_reducible rfl);done))))
       refine fork_end ?_
       go_wp2_with fail
       go_meet
       have hz6:=B6.size
       have e2:((W7.setCell ⟨w6.heap.size,0,none⟩ (.slice so n6 c6)).setCell ⟨w6.heap.size,1,none⟩ (.int .i64 rt)).heap[w6.heap.size]?=some (.cells #[.slice so n6 c6, .int .i64 rt] 32):=by
        have:=heap_setCell_same (off:=1) (v:= .int .i64 rt) (heap_setCell_same (off:=0) (v:= .slice so n6 c6) k7)
        simpa using this
       have KX:Keep wr.heap.size w6 ((W7.setCell ⟨w6.heap.size,0,none⟩ (.slice so n6 c6)).setCell ⟨w6.heap.size,1,none⟩ (.int .i64 rt)):=⟨by simp only [heap_setCell_size];exact hb7.size,fun q _ hq=>((heap_setCell_other _ ⟨w6.heap.size,_,none⟩ q _ (by show q≠w6.heap.size;omega)).trans (heap_setCell_other _ ⟨w6.heap.size,_,none⟩ q _ (by show q≠w6.heap.size;omega))).trans (hb7.block q hq)⟩
       exact⟨w6.heap.size,so,n6,c6,rt,E2,rfl,rfl,Lib.hid ⟨(B7.setCell hz6 _).setCell hz6 _,hz6,e2,hpf.keep (B':=wr.heap.size) KX (Nat.le_refl _)⟩⟩
      ·go_simp
       obtain⟨W7,hW7⟩:∃W7,W7=(wr.alloc (.cells #[.slice none 0 0, .int .i64 0] 32)).drew:=⟨_,rfl⟩
       have B7:Below wr.heap.size wr W7:=by rw [hW7];exact belowAuto
       have k7:W7.heap[wr.heap.size]?=some (.cells #[.slice none 0 0, .int .i64 0] 32):=by rw [hW7];exact heap_new _ _ rfl
       have hz7:W7.heap.size=wr.heap.size+1:=by rw [hW7];simp
       rw [←hW7]
       refine hK _ _ (HS.out _ B7) ?_
       clear hK K hW7 T0
       (repeat (first|((refine fork_pure (v:=?_) rfl rfl (fun W=>?_) ?_);rotate_left;focus (go_simp;(try with_reducible rfl);done))|((refine fork_read (v:=?_) rfl rfl (fun W hW=>?_) ?_);rotate_left;focus ((try dsimp only at hW);go_simp;(try with_reducible rfl);done))))
       refine fork_does rfl rfl (fun K hK=>?_)
       go_simp
       (with_reducible refine(HPU.out _ B7).mono ?_);rintro x w6 ⟨hb6,so,n6,c6,rt,E2,rfl,hpf⟩
       have B6:Below wr.heap.size wr w6:=Below.trans' B7 hb6 B7.size
       have k6:=(hb6.block wr.heap.size (by omega)).trans k7
       go_simp
       refine hK _ _ (HS.out _ B6) ?_
       clear hK K
       have d0:w6.cell? ⟨wr.heap.size,0,none⟩=some (.slice none 0 0):=by simp [World.cell?,k6]
       have d1:w6.cell? ⟨wr.heap.size,1,none⟩=some (.int .i64 0):=by simp [World.cell?,k6]
       have df:∀o,w6.frozen? ⟨wr.heap.size,o,none⟩=false:=fun o=>by simp [World.frozen?,k6]
       have hz6:=hb6.size
       clear k7
       (repeat (first|((refine fork_pure (v:=?_) rfl rfl (fun W=>?_) ?_);rotate_left;focus (go_simp;(try with_reducible rfl);done))|((refine fork_read (v:=?_) rfl rfl (fun W hW=>?_) ?_);rotate_left;focus ((try dsimp only at hW);go_simp;(try with_reducible rfl);done))))
       refine fork_last rfl rfl (fun K hK=>?_)
       go_simp
       refine hK _ _ ?_
       clear hK K
       (repeat (first|((refine fork_pure (v:=?_) rfl rfl (fun W=>?_) ?_);rotate_left;focus (go_simp;(try with_reducible rfl);done))|((refine fork_read (v:=?_) rfl rfl (fun W hW=>?_) ?_);rotate_left;focus ((try dsimp only at hW);go_simp;(try with_reducible rfl);done))))
       refine fork_end ?_
       go_wp2_with fail
       go_meet
       have e2:((w6.setCell ⟨wr.heap.size,0,none⟩ (.slice so n6 c6)).setCell ⟨wr.heap.size,1,none⟩ (.int .i64 rt)).heap[wr.heap.size]?=some (.cells #[.slice so n6 c6, .int .i64 rt] 32):=by
        have:=heap_setCell_same (off:=1) (v:= .int .i64 rt) (heap_setCell_same (off:=0) (v:= .slice so n6 c6) k6)
        simpa using this
       have KX:Keep W7.heap.size w6 ((w6.setCell ⟨wr.heap.size,0,none⟩ (.slice so n6 c6)).setCell ⟨wr.heap.size,1,none⟩ (.int .i64 rt)):=((Keep.refl _ _).set (by show wr.heap.size<_;omega) _).set (by show wr.heap.size<_;omega) _
       exact⟨wr.heap.size,so,n6,c6,rt,E2,rfl,rfl,Lib.hid ⟨(B6.setCell (Nat.le_refl _) _).setCell (Nat.le_refl _) _,Nat.le_refl _,e2,hpf.keep (B':=wr.heap.size) KX (by omega)⟩⟩
     case rest=>
      obtain⟨tb,so,n,c6,rt,E2,rfl,rfl,HX⟩:=hcut
      have HAX:=Lib.hid (HA.out.later HX.out.1)
      obtain⟨y0,y1,y2,y3,y4,y5,y6,y7,yf⟩:=HAX.out.at'.bs
      obtain⟨z0',z1',z2',z3',z4',z5',z6',z7',zf'⟩:=HAX.out.at'.zs
      obtain⟨q0,q1⟩:wc.cell? ⟨tb,0,none⟩=some (.slice so n c6)∧wc.cell? ⟨tb,1,none⟩=some (.int .i64 rt):=by
       have:=HX.out.2.2.1
       simp [World.cell?,this]
      by_cases h0:E2=0
      ·subst h0
       go_wp2_with fail
       go_roundg (3-(0+1))
       case measure=>omega
       case rel=>
        obtain⟨t',m1,m2,m3,m4,m5⟩:=add_ok HF.out HL.out (k:=0) (by decide) HX.out.2.2.2
        exact⟨0+1,by omega,rfl,by go_num,Lib.hid ⟨_,_,_,_,_,_,_,_,_,_,_,_,_,_,_,HA.out.step0 HX.out.1 m1 m2 m3 m4 m5⟩⟩
      ·have d2:(E2 != 0)=true:=by simp [h0]
       obtain⟨he1,he2⟩:=add_err HF.out HL.out (k:=0) (by decide) HX.out.2.2.2 h0
       have HE:=Lib.hid he2
       subst he1
       clear he2 h0
       go_wp2_with fail
       have hbw:=HAX.out.at'.below
       exact bodyPost_ret (v:= .tuple #[zeroB, .int .i64 1]) (by simp [results,Tryd.results51,go_sem, *]) rfl ⟨belowAuto, .inl ⟨1,rfl,rfl,HE.out⟩⟩
    ·have hTk:=hA.rest 1 (Nat.le_refl _) (by decide)
     have HTA:=Lib.hid (show ∀w'',Keep (w.heap.size+3) wr w''→TreeAt w'' (.agg #[.slice g1 l1 p1, .int .i64 r1]) (b.tree 1)from fun w'' hk=>by rw [←hTk];exact hA.t1 w'' hk)
     have hzr:=hA.at'.size
     obtain⟨y0,y1,y2,y3,y4,y5,y6,y7,yf⟩:=hA.at'.bs
     obtain⟨q0,q1,q2⟩:=hA.at'.pts
     have hrol:=hA.rol
     have hrl:=(Array.getElem?_eq_some_iff.1 hrol).1
     have HA:=Lib.hid hA
     have hiz:=idx_sizes1
     obtain⟨Q,hQ⟩:∃Q,time/60=Q:=⟨_,rfl⟩
     have hQ0:0≤Q∧Q≤1048575∧0≤Q*60∧Q*60≤time:=by rw [←hQ];omega
     have ht1:time.tdiv 60=Q:=by rw [Int.tdiv_eq_ediv_of_nonneg (by omega)];exact hQ
     have ht2:IntKind.i64.wrap Q=Q:=IntWalk.i64_in _ (by omega)
     have ht3:IntKind.i64.wrap (Q*60)=Q*60:=IntWalk.i64_in _ (by omega)
     have ht4:IntKind.i64.wrap (I*1048576)=I*1048576:=IntWalk.i64_in _ (by omega)
     have ht5:IntKind.i64.wrap (I*1048576+Q*60)=I*1048576+Q*60:=IntWalk.i64_in _ (by omega)
     have HKEY:=Lib.hid (show (addK b s time value 1).key=I*1048576+Q*60 from by show addI b s*1048576+time/60*60=_;rw [HI.out,hQ];try rw [Int.mul_one])
     have HPU:=Lib.hid fun(W:World) (hb:Below wr.heap.size wr W)=>(by
      have h1:=treePut_form (w:=W) (key:=(addK b s time value 1).key) (r:=(addK b s time value 1).is) (HTA.out W (Keep.of hb (Nat.le_refl _))) (fun h0=>by
       rcases (putE_add HF.out HL.out (k:=1) (by decide)).1 with ⟨-,p2⟩|⟨p1,-⟩
       ·exact p2
       ·have:(0:Int)=1:=h0.symm.trans p1
        omega)
      have h2:(fun x w'=>Below W.heap.size W w'∧∃so n c rt E2,x=Ending.returned (.tuple #[.agg #[.slice so n c, .int .i64 rt], .int .i64 E2])∧PutForm W.heap.size (b.tree 1) (addK b s time value 1).key (addK b s time value 1).is w' so n c rt E2)=(fun x w'=>Below W.heap.size W w'∧∃so n c rt E2,x=Ending.returned (.tuple #[.agg #[.slice so n c, .int .i64 rt], .int .i64 E2])∧PutForm W.heap.size (b.tree 1) (addK b s time value 1).key (addK b s time value 1).is w' so n c rt E2):=rfl
      rw [HKEY.out]at h1
      rw [HKEY.out]
      exact h1:Calls Tryd.prog 48 #[.agg #[.slice g1 l1 p1, .int .i64 r1], .int .i64 (I*1048576+Q*60), .agg #[.int .i64 1, .int .i64 value, .int .i64 value, .int .i64 value, .int .i64 time, .int .i64 value]] W fun x w'=>Below W.heap.size W w'∧∃so n c rt E2,x = .returned (.tuple #[.agg #[.slice so n c, .int .i64 rt], .int .i64 E2])∧PutForm W.heap.size (b.tree 1) (addK b s time value 1).key (addK b s time value 1).is w' so n c rt E2)
     have HS:=Lib.hid fun(W:World) (hb:Below wr.heap.size wr W)=>(by
      have c:∀g o,g<wr.heap.size→W.cell? ⟨g,o,none⟩=wr.cell? ⟨g,o,none⟩:=fun g o h=>hb.cell (p:=⟨g,o,none⟩) h
      have hr:=(hb.block rb hrl).trans hrol
      exact⟨(c _ _ (by omega)).trans y3,(c _ _ (by omega)).trans y4,(c _ _ (by omega)).trans q1,by simp [World.cell?,hr],by simp [World.cell?,hr],by simp [World.cell?,hr],by simp [World.cell?,hr],by simp [World.cell?,hr],by simp [World.cell?,hr]⟩ :
      W.cell? ⟨w.heap.size,3,none⟩=some (.slice g1 l1 p1)∧W.cell? ⟨w.heap.size,4,none⟩=some (.int .i64 r1)∧W.cell? ⟨w.heap.size+1,1,none⟩=some (.int .i64 time)∧W.cell? ⟨rb,0,none⟩=some (.int .i64 1)∧W.cell? ⟨rb,1,none⟩=some (.int .i64 value)∧W.cell? ⟨rb,2,none⟩=some (.int .i64 value)∧W.cell? ⟨rb,3,none⟩=some (.int .i64 value)∧W.cell? ⟨rb,4,none⟩=some (.int .i64 time)∧W.cell? ⟨rb,5,none⟩=some (.int .i64 value))
     clear hA hTk hrol hQ HR HKEY HTA hi0 hi1 ht0 hfl
     go_upto_region 21 with (fail)
     clear y0 y1 y2 y3 y4 y5 y6 y7 yf q0 q1 q2 hiz
     go_cut [12,13] (fun p c wx=>∃(tb:Nat) (so:Option Addr) (n c6:Nat) (rt E2:Int),p = .pointer (some ⟨tb,0,none⟩)∧c = .int .i64 E2∧Hid (Below wr.heap.size wr wx∧wr.heap.size≤tb∧wx.heap[tb]?=some (.cells #[.slice so n c6, .int .i64 rt] 32)∧PutForm wr.heap.size (b.tree 1) (addK b s time value 1).key (addK b s time value 1).is wx so n c6 rt E2))
     case first=>
      have T0:Below wr.heap.size wr wr.drew:=(Below.refl _ _).drew
      refine wp_region_fork (Sch.of [(0,1),(1,1),(2,1),(3,0),(4,1),(5,1),(6,1),(7,0),(8,1),(9,1),(10,1),(11,1),(12,1),(13,0)] (.fork 14 18 (Sch.of [(15,1),(16,1),(17,1),(18,2),(19,3),(20,1)] .nil) (Sch.of [(14,2),(15,1),(16,1),(17,1),(19,3),(20,1)] .nil))) 19
       (fun W=>W.cell? ⟨w.heap.size,3,none⟩=some (.slice g1 l1 p1)∧W.cell? ⟨w.heap.size,4,none⟩=some (.int .i64 r1)∧W.cell? ⟨w.heap.size+1,1,none⟩=some (.int .i64 time)∧W.cell? ⟨rb,0,none⟩=some (.int .i64 1)∧W.cell? ⟨rb,1,none⟩=some (.int .i64 value)∧W.cell? ⟨rb,2,none⟩=some (.int .i64 value)∧W.cell? ⟨rb,3,none⟩=some (.int .i64 value)∧W.cell? ⟨rb,4,none⟩=some (.int .i64 time)∧W.cell? ⟨rb,5,none⟩=some (.int .i64 value)) (by kernel_rfl) (by kernel_rfl) (HS.out _ T0) ?_
      simp only [Sch.of]
      (repeat (first|((refine fork_pure (v:=?_) rfl rfl (fun W=>?_) ?_);rotate_left;focus (go_simp;(try with_reducible rfl);done))|((refine fork_read (v:=?_) rfl rfl (fun W hW=>?_) ?_);rotate_left;focus ((try dsimp only at hW);go_simp;(try with_reducible rfl);done))))
      refine fork_both rfl rfl rfl rfl (fun K hK=>?_) (fun K hK=>?_)
      ·go_simp
       (with_reducible refine(HPU.out _ T0).mono ?_);rintro x w6 ⟨hb6,so,n6,c6,rt,E2,rfl,hpf⟩
       have B6:Below wr.heap.size wr w6:=Below.trans' T0 hb6 (Nat.le_refl _)
       go_simp
       refine hK _ _ (HS.out _ B6) ?_
       clear hK K T0
       (repeat (first|((refine fork_pure (v:=?_) rfl rfl (fun W=>?_) ?_);rotate_left;focus (go_simp;(try with_reducible rfl);done))|((refine fork_read (v:=?_) rfl rfl (fun W hW=>?_) ?_);rotate_left;focus ((try dsimp only at hW);go_simp;(try with_reducible rfl);done))))
       refine fork_does rfl rfl (fun K hK=>?_)
       go_simp
       obtain⟨W7,hW7⟩:∃W7,W7=w6.alloc (.cells #[.slice none 0 0, .int .i64 0] 32):=⟨_,rfl⟩
       have hb7:Below w6.heap.size w6 W7:=by rw [hW7];exact belowAuto
       have k7:W7.heap[w6.heap.size]?=some (.cells #[.slice none 0 0, .int .i64 0] 32):=by rw [hW7];exact heap_new _ _ rfl
       have B7:Below wr.heap.size wr W7:=Below.trans' B6 hb7 B6.size
       rw [←hW7]
       refine hK _ _ (HS.out _ B7) ?_
       clear hK K hW7
       have d0:W7.cell? ⟨w6.heap.size,0,none⟩=some (.slice none 0 0):=by simp [World.cell?,k7]
       have d1:W7.cell? ⟨w6.heap.size,1,none⟩=some (.int .i64 0):=by simp [World.cell?,k7]
       have df:∀o,W7.frozen? ⟨w6.heap.size,o,none⟩=false:=fun o=>by simp [World.frozen?,k7]
       (repeat (first|((refine fork_pure (v:=?_) rfl rfl (fun W=>?_) ?_);rotate_left;focus (go_simp;(try with_reducible rfl);done))|((refine fork_read (v:=?_) rfl rfl (fun W hW=>?_) ?_);rotate_left;focus ((try dsimp only at hW);go_simp;(try with_reducible rfl);done))))
       refine fork_last rfl rfl (fun K hK=>?_)
       go_simp
       refine hK _ _ ?_
       clear hK K
       (repeat (first|((refine fork_pure (v:=?_) rfl rfl (fun W=>?_) ?_);rotate_left;focus (go_simp;(try with_reducible rfl);done))|((refine fork_read (v:=?_) rfl rfl (fun W hW=>?_) ?_);rotate_left;focus ((try dsimp only at hW);go_simp;(try with_reducible rfl);done))))
       refine fork_end ?_
       go_wp2_with fail
       go_meet
       have hz6:=B6.size
       have e2:((W7.setCell ⟨w6.heap.size,0,none⟩ (.slice so n6 c6)).setCell ⟨w6.heap.size,1,none⟩ (.int .i64 rt)).heap[w6.heap.size]?=some (.cells #[.slice so n6 c6, .int .i64 rt] 32):=by
        have:=heap_setCell_same (off:=1) (v:= .int .i64 rt) (heap_setCell_same (off:=0) (v:= .slice so n6 c6) k7)
        simpa using this
       have KX:Keep wr.heap.size w6 ((W7.setCell ⟨w6.heap.size,0,none⟩ (.slice so n6 c6)).setCell ⟨w6.heap.size,1,none⟩ (.int .i64 rt)):=⟨by simp only [heap_setCell_size];exact hb7.size,fun q _ hq=>((heap_setCell_other _ ⟨w6.heap.size,_,none⟩ q _ (by show q≠w6.heap.size;omega)).trans (heap_setCell_other _ ⟨w6.heap.size,_,none⟩ q _ (by show q≠w6.heap.size;omega))).trans (hb7.block q hq)⟩
       exact⟨w6.heap.size,so,n6,c6,rt,E2,rfl,rfl,Lib.hid ⟨(B7.setCell hz6 _).setCell hz6 _,hz6,e2,hpf.keep (B':=wr.heap.size) KX (Nat.le_refl _)⟩⟩
      ·go_simp
       obtain⟨W7,hW7⟩:∃W7,W7=(wr.alloc (.cells #[.slice none 0 0, .int .i64 0] 32)).drew:=⟨_,rfl⟩
       have B7:Below wr.heap.size wr W7:=by rw [hW7];exact belowAuto
       have k7:W7.heap[wr.heap.size]?=some (.cells #[.slice none 0 0, .int .i64 0] 32):=by rw [hW7];exact heap_new _ _ rfl
       have hz7:W7.heap.size=wr.heap.size+1:=by rw [hW7];simp
       rw [←hW7]
       refine hK _ _ (HS.out _ B7) ?_
       clear hK K hW7 T0
       (repeat (first|((refine fork_pure (v:=?_) rfl rfl (fun W=>?_) ?_);rotate_left;focus (go_simp;(try with_reducible rfl);done))|((refine fork_read (v:=?_) rfl rfl (fun W hW=>?_) ?_);rotate_left;focus ((try dsimp only at hW);go_simp;(try with_reducible rfl);done))))
       refine fork_does rfl rfl (fun K hK=>?_)
       go_simp
       (with_reducible refine(HPU.out _ B7).mono ?_);rintro x w6 ⟨hb6,so,n6,c6,rt,E2,rfl,hpf⟩
       have B6:Below wr.heap.size wr w6:=Below.trans' B7 hb6 B7.size
       have k6:=(hb6.block wr.heap.size (by omega)).trans k7
       go_simp
       refine hK _ _ (HS.out _ B6) ?_
       clear hK K
       have d0:w6.cell? ⟨wr.heap.size,0,none⟩=some (.slice none 0 0):=by simp [World.cell?,k6]
       have d1:w6.cell? ⟨wr.heap.size,1,none⟩=some (.int .i64 0):=by simp [World.cell?,k6]
       have df:∀o,w6.frozen? ⟨wr.heap.size,o,none⟩=false:=fun o=>by simp [World.frozen?,k6]
       have hz6:=hb6.size
       clear k7
       (repeat (first|((refine fork_pure (v:=?_) rfl rfl (fun W=>?_) ?_);rotate_left;focus (go_simp;(try with_reducible rfl);done))|((refine fork_read (v:=?_) rfl rfl (fun W hW=>?_) ?_);rotate_left;focus ((try dsimp only at hW);go_simp;(try with_reducible rfl);done))))
       refine fork_last rfl rfl (fun K hK=>?_)
       go_simp
       refine hK _ _ ?_
       clear hK K
       (repeat (first|((refine fork_pure (v:=?_) rfl rfl (fun W=>?_) ?_);rotate_left;focus (go_simp;(try with_reducible rfl);done))|((refine fork_read (v:=?_) rfl rfl (fun W hW=>?_) ?_);rotate_left;focus ((try dsimp only at hW);go_simp;(try with_reducible rfl);done))))
       refine fork_end ?_
       go_wp2_with fail
       go_meet
       have e2:((w6.setCell ⟨wr.heap.size,0,none⟩ (.slice so n6 c6)).setCell ⟨wr.heap.size,1,none⟩ (.int .i64 rt)).heap[wr.heap.size]?=some (.cells #[.slice so n6 c6, .int .i64 rt] 32):=by
        have:=heap_setCell_same (off:=1) (v:= .int .i64 rt) (heap_setCell_same (off:=0) (v:= .slice so n6 c6) k6)
        simpa using this
       have KX:Keep W7.heap.size w6 ((w6.setCell ⟨wr.heap.size,0,none⟩ (.slice so n6 c6)).setCell ⟨wr.heap.size,1,none⟩ (.int .i64 rt)):=((Keep.refl _ _).set (by show wr.heap.size<_;omega) _).set (by show wr.heap.size<_;omega) _
       exact⟨wr.heap.size,so,n6,c6,rt,E2,rfl,rfl,Lib.hid ⟨(B6.setCell (Nat.le_refl _) _).setCell (Nat.le_refl _) _,Nat.le_refl _,e2,hpf.keep (B':=wr.heap.size) KX (by omega)⟩⟩
     case rest=>
      obtain⟨tb,so,n,c6,rt,E2,rfl,rfl,HX⟩:=hcut
      have HAX:=Lib.hid (HA.out.later HX.out.1)
      obtain⟨y0,y1,y2,y3,y4,y5,y6,y7,yf⟩:=HAX.out.at'.bs
      obtain⟨z0',z1',z2',z3',z4',z5',z6',z7',zf'⟩:=HAX.out.at'.zs
      obtain⟨q0,q1⟩:wc.cell? ⟨tb,0,none⟩=some (.slice so n c6)∧wc.cell? ⟨tb,1,none⟩=some (.int .i64 rt):=by
       have:=HX.out.2.2.1
       simp [World.cell?,this]
      by_cases h0:E2=0
      ·subst h0
       go_wp2_with fail
       go_roundg (3-(1+1))
       case measure=>omega
       case rel=>
        obtain⟨t',m1,m2,m3,m4,m5⟩:=add_ok HF.out HL.out (k:=1) (by decide) HX.out.2.2.2
        exact⟨1+1,by omega,rfl,by go_num,Lib.hid ⟨_,_,_,_,_,_,_,_,_,_,_,_,_,_,_,HA.out.step1 HX.out.1 m1 m2 m3 m4 m5⟩⟩
      ·have d2:(E2 != 0)=true:=by simp [h0]
       obtain⟨he1,he2⟩:=add_err HF.out HL.out (k:=1) (by decide) HX.out.2.2.2 h0
       have HE:=Lib.hid he2
       subst he1
       clear he2 h0
       go_wp2_with fail
       have hbw:=HAX.out.at'.below
       exact bodyPost_ret (v:= .tuple #[zeroB, .int .i64 1]) (by simp [results,Tryd.results51,go_sem, *]) rfl ⟨belowAuto, .inl ⟨1,rfl,rfl,HE.out⟩⟩
    ·have hTk:=hA.rest 2 (Nat.le_refl _) (by decide)
     have HTA:=Lib.hid (show ∀w'',Keep (w.heap.size+3) wr w''→TreeAt w'' (.agg #[.slice g2 l2 p2, .int .i64 r2]) (b.tree 2)from fun w'' hk=>by rw [←hTk];exact hA.t2 w'' hk)
     have hzr:=hA.at'.size
     obtain⟨y0,y1,y2,y3,y4,y5,y6,y7,yf⟩:=hA.at'.bs
     obtain⟨q0,q1,q2⟩:=hA.at'.pts
     have hrol:=hA.rol
     have hrl:=(Array.getElem?_eq_some_iff.1 hrol).1
     have HA:=Lib.hid hA
     have hiz:=idx_sizes2
     obtain⟨Q,hQ⟩:∃Q,time/3600=Q:=⟨_,rfl⟩
     have hQ0:0≤Q∧Q≤1048575∧0≤Q*3600∧Q*3600≤time:=by rw [←hQ];omega
     have ht1:time.tdiv 3600=Q:=by rw [Int.tdiv_eq_ediv_of_nonneg (by omega)];exact hQ
     have ht2:IntKind.i64.wrap Q=Q:=IntWalk.i64_in _ (by omega)
     have ht3:IntKind.i64.wrap (Q*3600)=Q*3600:=IntWalk.i64_in _ (by omega)
     have ht4:IntKind.i64.wrap (I*1048576)=I*1048576:=IntWalk.i64_in _ (by omega)
     have ht5:IntKind.i64.wrap (I*1048576+Q*3600)=I*1048576+Q*3600:=IntWalk.i64_in _ (by omega)
     have HKEY:=Lib.hid (show (addK b s time value 2).key=I*1048576+Q*3600 from by show addI b s*1048576+time/3600*3600=_;rw [HI.out,hQ];try rw [Int.mul_one])
     have HPU:=Lib.hid fun(W:World) (hb:Below wr.heap.size wr W)=>(by
      have h1:=treePut_form (w:=W) (key:=(addK b s time value 2).key) (r:=(addK b s time value 2).is) (HTA.out W (Keep.of hb (Nat.le_refl _))) (fun h0=>by
       rcases (putE_add HF.out HL.out (k:=2) (by decide)).1 with ⟨-,p2⟩|⟨p1,-⟩
       ·exact p2
       ·have:(0:Int)=1:=h0.symm.trans p1
        omega)
      have h2:(fun x w'=>Below W.heap.size W w'∧∃so n c rt E2,x=Ending.returned (.tuple #[.agg #[.slice so n c, .int .i64 rt], .int .i64 E2])∧PutForm W.heap.size (b.tree 2) (addK b s time value 2).key (addK b s time value 2).is w' so n c rt E2)=(fun x w'=>Below W.heap.size W w'∧∃so n c rt E2,x=Ending.returned (.tuple #[.agg #[.slice so n c, .int .i64 rt], .int .i64 E2])∧PutForm W.heap.size (b.tree 2) (addK b s time value 2).key (addK b s time value 2).is w' so n c rt E2):=rfl
      rw [HKEY.out]at h1
      rw [HKEY.out]
      exact h1:Calls Tryd.prog 48 #[.agg #[.slice g2 l2 p2, .int .i64 r2], .int .i64 (I*1048576+Q*3600), .agg #[.int .i64 1, .int .i64 value, .int .i64 value, .int .i64 value, .int .i64 time, .int .i64 value]] W fun x w'=>Below W.heap.size W w'∧∃so n c rt E2,x = .returned (.tuple #[.agg #[.slice so n c, .int .i64 rt], .int .i64 E2])∧PutForm W.heap.size (b.tree 2) (addK b s time value 2).key (addK b s time value 2).is w' so n c rt E2)
     have HS:=Lib.hid fun(W:World) (hb:Below wr.heap.size wr W)=>(by
      have c:∀g o,g<wr.heap.size→W.cell? ⟨g,o,none⟩=wr.cell? ⟨g,o,none⟩:=fun g o h=>hb.cell (p:=⟨g,o,none⟩) h
      have hr:=(hb.block rb hrl).trans hrol
      exact⟨(c _ _ (by omega)).trans y5,(c _ _ (by omega)).trans y6,(c _ _ (by omega)).trans q1,by simp [World.cell?,hr],by simp [World.cell?,hr],by simp [World.cell?,hr],by simp [World.cell?,hr],by simp [World.cell?,hr],by simp [World.cell?,hr]⟩ :
      W.cell? ⟨w.heap.size,5,none⟩=some (.slice g2 l2 p2)∧W.cell? ⟨w.heap.size,6,none⟩=some (.int .i64 r2)∧W.cell? ⟨w.heap.size+1,1,none⟩=some (.int .i64 time)∧W.cell? ⟨rb,0,none⟩=some (.int .i64 1)∧W.cell? ⟨rb,1,none⟩=some (.int .i64 value)∧W.cell? ⟨rb,2,none⟩=some (.int .i64 value)∧W.cell? ⟨rb,3,none⟩=some (.int .i64 value)∧W.cell? ⟨rb,4,none⟩=some (.int .i64 time)∧W.cell? ⟨rb,5,none⟩=some (.int .i64 value))
     clear hA hTk hrol hQ HR HKEY HTA hi0 hi1 ht0 hfl
     go_upto_region 21 with (fail)
     clear y0 y1 y2 y3 y4 y5 y6 y7 yf q0 q1 q2 hiz
     go_cut [12,13] (fun p c wx=>∃(tb:Nat) (so:Option Addr) (n c6:Nat) (rt E2:Int),p = .pointer (some ⟨tb,0,none⟩)∧c = .int .i64 E2∧Hid (Below wr.heap.size wr wx∧wr.heap.size≤tb∧wx.heap[tb]?=some (.cells #[.slice so n c6, .int .i64 rt] 32)∧PutForm wr.heap.size (b.tree 2) (addK b s time value 2).key (addK b s time value 2).is wx so n c6 rt E2))
     case first=>
      have T0:Below wr.heap.size wr wr.drew:=(Below.refl _ _).drew
      refine wp_region_fork (Sch.of [(0,1),(1,1),(2,1),(3,0),(4,1),(5,1),(6,1),(7,0),(8,1),(9,1),(10,1),(11,1),(12,1),(13,0)] (.fork 14 18 (Sch.of [(15,1),(16,1),(17,1),(18,2),(19,3),(20,1)] .nil) (Sch.of [(14,2),(15,1),(16,1),(17,1),(19,3),(20,1)] .nil))) 19
       (fun W=>W.cell? ⟨w.heap.size,5,none⟩=some (.slice g2 l2 p2)∧W.cell? ⟨w.heap.size,6,none⟩=some (.int .i64 r2)∧W.cell? ⟨w.heap.size+1,1,none⟩=some (.int .i64 time)∧W.cell? ⟨rb,0,none⟩=some (.int .i64 1)∧W.cell? ⟨rb,1,none⟩=some (.int .i64 value)∧W.cell? ⟨rb,2,none⟩=some (.int .i64 value)∧W.cell? ⟨rb,3,none⟩=some (.int .i64 value)∧W.cell? ⟨rb,4,none⟩=some (.int .i64 time)∧W.cell? ⟨rb,5,none⟩=some (.int .i64 value)) (by kernel_rfl) (by kernel_rfl) (HS.out _ T0) ?_
      simp only [Sch.of]
      (repeat (first|((refine fork_pure (v:=?_) rfl rfl (fun W=>?_) ?_);rotate_left;focus (go_simp;(try with_reducible rfl);done))|((refine fork_read (v:=?_) rfl rfl (fun W hW=>?_) ?_);rotate_left;focus ((try dsimp only at hW);go_simp;(try with_reducible rfl);done))))
      refine fork_both rfl rfl rfl rfl (fun K hK=>?_) (fun K hK=>?_)
      ·go_simp
       (with_reducible refine(HPU.out _ T0).mono ?_);rintro x w6 ⟨hb6,so,n6,c6,rt,E2,rfl,hpf⟩
       have B6:Below wr.heap.size wr w6:=Below.trans' T0 hb6 (Nat.le_refl _)
       go_simp
       refine hK _ _ (HS.out _ B6) ?_
       clear hK K T0
       (repeat (first|((refine fork_pure (v:=?_) rfl rfl (fun W=>?_) ?_);rotate_left;focus (go_simp;(try with_reducible rfl);done))|((refine fork_read (v:=?_) rfl rfl (fun W hW=>?_) ?_);rotate_left;focus ((try dsimp only at hW);go_simp;(try with_reducible rfl);done))))
       refine fork_does rfl rfl (fun K hK=>?_)
       go_simp
       obtain⟨W7,hW7⟩:∃W7,W7=w6.alloc (.cells #[.slice none 0 0, .int .i64 0] 32):=⟨_,rfl⟩
       have hb7:Below w6.heap.size w6 W7:=by rw [hW7];exact belowAuto
       have k7:W7.heap[w6.heap.size]?=some (.cells #[.slice none 0 0, .int .i64 0] 32):=by rw [hW7];exact heap_new _ _ rfl
       have B7:Below wr.heap.size wr W7:=Below.trans' B6 hb7 B6.size
       rw [←hW7]
       refine hK _ _ (HS.out _ B7) ?_
       clear hK K hW7
       have d0:W7.cell? ⟨w6.heap.size,0,none⟩=some (.slice none 0 0):=by simp [World.cell?,k7]
       have d1:W7.cell? ⟨w6.heap.size,1,none⟩=some (.int .i64 0):=by simp [World.cell?,k7]
       have df:∀o,W7.frozen? ⟨w6.heap.size,o,none⟩=false:=fun o=>by simp [World.frozen?,k7]
       (repeat (first|((refine fork_pure (v:=?_) rfl rfl (fun W=>?_) ?_);rotate_left;focus (go_simp;(try with_reducible rfl);done))|((refine fork_read (v:=?_) rfl rfl (fun W hW=>?_) ?_);rotate_left;focus ((try dsimp only at hW);go_simp;(try with_reducible rfl);done))))
       refine fork_last rfl rfl (fun K hK=>?_)
       go_simp
       refine hK _ _ ?_
       clear hK K
       (repeat (first|((refine fork_pure (v:=?_) rfl rfl (fun W=>?_) ?_);rotate_left;focus (go_simp;(try with_reducible rfl);done))|((refine fork_read (v:=?_) rfl rfl (fun W hW=>?_) ?_);rotate_left;focus ((try dsimp only at hW);go_simp;(try with_reducible rfl);done))))
       refine fork_end ?_
       go_wp2_with fail
       go_meet
       have hz6:=B6.size
       have e2:((W7.setCell ⟨w6.heap.size,0,none⟩ (.slice so n6 c6)).setCell ⟨w6.heap.size,1,none⟩ (.int .i64 rt)).heap[w6.heap.size]?=some (.cells #[.slice so n6 c6, .int .i64 rt] 32):=by
        have:=heap_setCell_same (off:=1) (v:= .int .i64 rt) (heap_setCell_same (off:=0) (v:= .slice so n6 c6) k7)
        simpa using this
       have KX:Keep wr.heap.size w6 ((W7.setCell ⟨w6.heap.size,0,none⟩ (.slice so n6 c6)).setCell ⟨w6.heap.size,1,none⟩ (.int .i64 rt)):=⟨by simp only [heap_setCell_size];exact hb7.size,fun q _ hq=>((heap_setCell_other _ ⟨w6.heap.size,_,none⟩ q _ (by show q≠w6.heap.size;omega)).trans (heap_setCell_other _ ⟨w6.heap.size,_,none⟩ q _ (by show q≠w6.heap.size;omega))).trans (hb7.block q hq)⟩
       exact⟨w6.heap.size,so,n6,c6,rt,E2,rfl,rfl,Lib.hid ⟨(B7.setCell hz6 _).setCell hz6 _,hz6,e2,hpf.keep (B':=wr.heap.size) KX (Nat.le_refl _)⟩⟩
      ·go_simp
       obtain⟨W7,hW7⟩:∃W7,W7=(wr.alloc (.cells #[.slice none 0 0, .int .i64 0] 32)).drew:=⟨_,rfl⟩
       have B7:Below wr.heap.size wr W7:=by rw [hW7];exact belowAuto
       have k7:W7.heap[wr.heap.size]?=some (.cells #[.slice none 0 0, .int .i64 0] 32):=by rw [hW7];exact heap_new _ _ rfl
       have hz7:W7.heap.size=wr.heap.size+1:=by rw [hW7];simp
       rw [←hW7]
       refine hK _ _ (HS.out _ B7) ?_
       clear hK K hW7 T0
       (repeat (first|((refine fork_pure (v:=?_) rfl rfl (fun W=>?_) ?_);rotate_left;focus (go_simp;(try with_reducible rfl);done))|((refine fork_read (v:=?_) rfl rfl (fun W hW=>?_) ?_);rotate_left;focus ((try dsimp only at hW);go_simp;(try with_reducible rfl);done))))
       refine fork_does rfl rfl (fun K hK=>?_)
       go_simp
       (with_reducible refine(HPU.out _ B7).mono ?_);rintro x w6 ⟨hb6,so,n6,c6,rt,E2,rfl,hpf⟩
       have B6:Below wr.heap.size wr w6:=Below.trans' B7 hb6 B7.size
       have k6:=(hb6.block wr.heap.size (by omega)).trans k7
       go_simp
       refine hK _ _ (HS.out _ B6) ?_
       clear hK K
       have d0:w6.cell? ⟨wr.heap.size,0,none⟩=some (.slice none 0 0):=by simp [World.cell?,k6]
       have d1:w6.cell? ⟨wr.heap.size,1,none⟩=some (.int .i64 0):=by simp [World.cell?,k6]
       have df:∀o,w6.frozen? ⟨wr.heap.size,o,none⟩=false:=fun o=>by simp [World.frozen?,k6]
       have hz6:=hb6.size
       clear k7
       (repeat (first|((refine fork_pure (v:=?_) rfl rfl (fun W=>?_) ?_);rotate_left;focus (go_simp;(try with_reducible rfl);done))|((refine fork_read (v:=?_) rfl rfl (fun W hW=>?_) ?_);rotate_left;focus ((try dsimp only at hW);go_simp;(try with_reducible rfl);done))))
       refine fork_last rfl rfl (fun K hK=>?_)
       go_simp
       refine hK _ _ ?_
       clear hK K
       (repeat (first|((refine fork_pure (v:=?_) rfl rfl (fun W=>?_) ?_);rotate_left;focus (go_simp;(try with_reducible rfl);done))|((refine fork_read (v:=?_) rfl rfl (fun W hW=>?_) ?_);rotate_left;focus ((try dsimp only at hW);go_simp;(try with_reducible rfl);done))))
       refine fork_end ?_
       go_wp2_with fail
       go_meet
       have e2:((w6.setCell ⟨wr.heap.size,0,none⟩ (.slice so n6 c6)).setCell ⟨wr.heap.size,1,none⟩ (.int .i64 rt)).heap[wr.heap.size]?=some (.cells #[.slice so n6 c6, .int .i64 rt] 32):=by
        have:=heap_setCell_same (off:=1) (v:= .int .i64 rt) (heap_setCell_same (off:=0) (v:= .slice so n6 c6) k6)
        simpa using this
       have KX:Keep W7.heap.size w6 ((w6.setCell ⟨wr.heap.size,0,none⟩ (.slice so n6 c6)).setCell ⟨wr.heap.size,1,none⟩ (.int .i64 rt)):=((Keep.refl _ _).set (by show wr.heap.size<_;omega) _).set (by show wr.heap.size<_;omega) _
       exact⟨wr.heap.size,so,n6,c6,rt,E2,rfl,rfl,Lib.hid ⟨(B6.setCell (Nat.le_refl _) _).setCell (Nat.le_refl _) _,Nat.le_refl _,e2,hpf.keep (B':=wr.heap.size) KX (by omega)⟩⟩
     case rest=>
      obtain⟨tb,so,n,c6,rt,E2,rfl,rfl,HX⟩:=hcut
      have HAX:=Lib.hid (HA.out.later HX.out.1)
      obtain⟨y0,y1,y2,y3,y4,y5,y6,y7,yf⟩:=HAX.out.at'.bs
      obtain⟨z0',z1',z2',z3',z4',z5',z6',z7',zf'⟩:=HAX.out.at'.zs
      obtain⟨q0,q1⟩:wc.cell? ⟨tb,0,none⟩=some (.slice so n c6)∧wc.cell? ⟨tb,1,none⟩=some (.int .i64 rt):=by
       have:=HX.out.2.2.1
       simp [World.cell?,this]
      by_cases h0:E2=0
      ·subst h0
       go_wp2_with fail
       go_roundg (3-(2+1))
       case measure=>omega
       case rel=>
        obtain⟨t',m1,m2,m3,m4,m5⟩:=add_ok HF.out HL.out (k:=2) (by decide) HX.out.2.2.2
        exact⟨2+1,by omega,rfl,by go_num,Lib.hid ⟨_,_,_,_,_,_,_,_,_,_,_,_,_,_,_,HA.out.step2 HX.out.1 m1 m2 m3 m4 m5⟩⟩
      ·have d2:(E2 != 0)=true:=by simp [h0]
       obtain⟨he1,he2⟩:=add_err HF.out HL.out (k:=2) (by decide) HX.out.2.2.2 h0
       have HE:=Lib.hid he2
       subst he1
       clear he2 h0
       go_wp2_with fail
       have hbw:=HAX.out.at'.below
       exact bodyPost_ret (v:= .tuple #[zeroB, .int .i64 1]) (by simp [results,Tryd.results51,go_sem, *]) rfl ⟨belowAuto, .inl ⟨1,rfl,rfl,HE.out⟩⟩
   ·obtain rfl:k=3:=by omega
    have HD:=Lib.hid hA.done
    have HA:=Lib.hid hA
    obtain⟨y0,y1,y2,y3,y4,y5,y6,y7,yf⟩:=hA.at'.bs
    obtain⟨z0',z1',z2',z3',z4',z5',z6',z7',zf'⟩:=hA.at'.zs
    have rt:∀{so:Option Addr} {n c:Nat} {r:Int} {t:Tr},TreeAt wr (.agg #[.slice so n c, .int .i64 r]) t→r=t.root:=fun {so n c r t} h=>by
     obtain⟨nv,e,-⟩:=h
     have e:=congrArg (fun v=>match v with | .agg a=>a[1]?|_=>none) e
     simpa using e
    have e0:=rt (hA.t0 wr (Keep.refl _ _))
    have e1:=rt (hA.t1 wr (Keep.refl _ _))
    have e2:=rt (hA.t2 wr (Keep.refl _ _))
    subst e0 e1 e2
    have nd:∀{w'':World} {so:Option Addr} {n c:Nat} {t:Tr},TreeAt w'' (.agg #[.slice so n c, .int .i64 t.root]) t→NodesAt w'' (.slice so n c) t.nodes:=fun {w'' so n c t} h=>by
     obtain⟨nv,e,hn⟩:=h
     have e:=congrArg (fun v=>match v with | .agg a=>a[0]?|_=>none) e
     simp at e
     rw [e];exact hn
    have HB:=Lib.hid (show ∀w'',Keep (w.heap.size+3) wr w''→BaseAt w'' (.agg (baCells sn (addNames b s).length sc g0 l0 p0 g1 l1 p1 g2 l2 p2 ⟨addNames b s,T 0,T 1,T 2,b.floor⟩)) ⟨addNames b s,T 0,T 1,T 2,b.floor⟩from fun w'' hk=>⟨_,_,_,_,rfl,HA.out.names w'' hk,nd (HA.out.t0 w'' hk),nd (HA.out.t1 w'' hk),nd (HA.out.t2 w'' hk)⟩)
    have HS:=Lib.hid (show ∀j,j<3→Small (addK b s time value j::(b.tree j).all)from fun j hj=>(HD.out j hj).2.2.2)
    have HI2:=Lib.hid (add_is (T:=T) HF.out HL.out HS.out fun j hj=>⟨(HD.out j hj).1,(HD.out j hj).2.1⟩)
    have HG:=Lib.hid (addE_good HF.out HL.out HS.out).1
    clear rt nd hA
    go_wp2_with fail
    have hbw:=HA.out.at'.below
    refine bodyPost_ret (v:= .tuple #[.agg #[.slice sn (addNames b s).length sc, .slice g0 l0 p0, .int .i64 (T 0).root, .slice g1 l1 p1, .int .i64 (T 1).root, .slice g2 l2 p2, .int .i64 (T 2).root, .int .i64 b.floor], .int .i64 0]) (by simp [results,Tryd.results51,go_sem, *]) rfl ⟨belowAuto, .inr ⟨HG.out,⟨addNames b s,T 0,T 1,T 2,b.floor⟩,sn,sc,g0,l0,p0,g1,l1,p1,g2,l2,p2,rfl,fun w'' hk=>HB.out w'' (Keep.trans ?_ (hk.mono (by omega))),rfl,rfl,HI2.out.1,HI2.out.2,fun j hj=>?_⟩⟩
    ·repeat (first|with_reducible exact Keep.refl _ _|with_reducible refine Keep.set ?_ (by show w.heap.size+2<w.heap.size+3;omega) _)
    ·have h3:j=0∨j=1∨j=2:=by omega
     have:=(HD.out j hj).2.2.1
     rcases h3 with rfl|rfl|rfl <;> exact this
end Go.Proofs.YtnjfkcimboidnaaDoor

/- base.Add, at every base and point. -/
namespace Go.Proofs.YtnjfkcimboidnaaDoor
open Go.RowKit
theorem baseAdd_any {v:Value} {b:Ba} {s:ByteArray} {time value:Int} {w:World} (h:BaseAt w v b) (hst:∀s∈b.names,s.size≤140737488351232) (hss:s.size≤140737488351232) (hsz:SizesAt w) :
  Calls Tryd.prog 51 #[v, .agg #[.string s, .int .i64 time, .int .i64 value]] w fun x w'=>Below w.heap.size w w' ∧
   ((addF b s time value≠0∧x = .returned (.tuple #[zeroB, .int .i64 (addF b s time value)]))∨(addF b s time value=0∧AddGo b s time value w.heap.size x w')):=by
 obtain⟨sa,sc,g0,l0,p0,g1,l1,p1,g2,l2,p2,rfl,-⟩:=h.open
 have er:∀{k:Int},addF b s time value=k→k≠0→Calls Tryd.prog 51 #[.agg (baCells sa b.names.length sc g0 l0 p0 g1 l1 p1 g2 l2 p2 b), .agg #[.string s, .int .i64 time, .int .i64 value]] w (fun x w'=>Below w.heap.size w w'∧x = .returned (.tuple #[zeroB, .int .i64 k])) →
   Calls Tryd.prog 51 #[.agg (baCells sa b.names.length sc g0 l0 p0 g1 l1 p1 g2 l2 p2 b), .agg #[.string s, .int .i64 time, .int .i64 value]] w (fun x w'=>Below w.heap.size w w'∧((addF b s time value≠0∧x = .returned (.tuple #[zeroB, .int .i64 (addF b s time value)]))∨(addF b s time value=0∧AddGo b s time value w.heap.size x w'))):=fun {k} e hk hc=>by
  subst e
  exact hc.mono fun x w' ⟨h1,h2⟩=>⟨h1, .inl ⟨hk,h2⟩⟩
 by_cases hm:baseMay b=true
 ·by_cases hn:nameMay s=true
  ·by_cases hr:0≤time∧time≤1048575∧-1000000≤value∧value≤1000000
   ·have hro:(rollOf time value).2=0:=by unfold rollOf;rw [if_pos hr]
    by_cases hf:time<b.floor
    ·exact er (by unfold addF;rw [if_neg (by simp [hm]),if_neg (by simp [hn]),if_neg (by simp [hro]),if_pos hf]) (by decide) (add_floor h hst hss hsz hm hn hr hf)
    ·by_cases hp:placeI b.names s<0∧16≤b.names.length
     ·have h16:=(baseMay_ok hm).n16
      have hp1:placeI b.names s = -1:=by
       rcases place_cases b.names s with ⟨k,-,e,-⟩|⟨e,-⟩
       ·omega
       ·exact e
      exact er (by unfold addF;rw [if_neg (by simp [hm]),if_neg (by simp [hn]),if_neg (by simp [hro]),if_neg hf,if_pos hp]) (by decide) (add_full h hst hss hsz hm hn hr (by omega) hp1 (by omega))
     ·have h0:addF b s time value=0:=by unfold addF;rw [if_neg (by simp [hm]),if_neg (by simp [hn]),if_neg (by simp [hro]),if_neg hf,if_neg hp]
      exact(add_go h hst hss hsz h0).mono fun x w' ⟨h1,h2⟩=>⟨h1, .inr ⟨h0,h2⟩⟩
   ·have hro:(rollOf time value).2=2:=by unfold rollOf;rw [if_neg hr]
    exact er (by unfold addF;rw [if_neg (by simp [hm]),if_neg (by simp [hn]),if_pos (by simp [hro]),hro]) (by decide) (add_roll h hst hss hsz hm hn hr)
  ·have hn:nameMay s=false:=by simpa using hn
   exact er (by unfold addF;rw [if_neg (by simp [hm]),if_pos hn]) (by decide) (add_name h hst hss hsz hm hn)
 ·have hm:baseMay b=false:=by simpa using hm
  exact er (by unfold addF;rw [if_pos hm]) (by decide) (add_may h hst hss hsz hm)
end Go.Proofs.YtnjfkcimboidnaaDoor
