import Derived.Test.YtmljjfhgciaceaaDoorHd
import Derived.Test.YtmljjfhgciaceaaDoorTopZ
import Derived.Test.YtmljjfhgciaceaaDoorTopT
import Derived.Test.YtmljjfhgciaceaaDoorTopY
import Derived.Test.YtmljjfhgciaceaaDoorEG
import Derived.Test.YtmljjfhgciaceaaDoorSameA
import Derived.Test.YtmljjfhgciaceaaDoorLawTopBack
namespace Go.Proofs.YtmljjfhgciaceaaDoor
open Go.RowKit
set_option maxRecDepth 100000
set_option maxHeartbeats 4000000
variable {R:aw} {w w7 wr:World}
def aaM:ByteArray:=⟨#[99,112,117]⟩
theorem adj:(⟨#[99,112,117]⟩:ByteArray).toList=[99,112,117]:=by
 first|rfl|decide|(simp;done)|(simp [go_sem];done)|go_simp
theorem adk (s:ByteArray):(s.toList == [99,112,117])=decide (s=⟨#[99,112,117]⟩):=by
 have:=Lv s ⟨#[99,112,117]⟩
 rw [adj]at this
 exact this
theorem ady {s:ByteArray} {a z:Int}:Calls Tryd.prog 16 #[.string s, .int .i64 a, .int .i64 z] w fun e w'=>e = .returned (.agg #[.int .i64 3, .string s, .int .i64 a, .int .i64 z, .int .i64 0, .int .i64 0])/\ah w w':=by
 obtain⟨W0,hW0⟩:=bP (w.alloc (.cells #[.int .i64 0, .string ⟨#[]⟩, .int .i64 0, .int .i64 0, .int .i64 0, .int .i64 0] 26))
 have hb0:ah w W0:=by rw [hW0];exact ag
 have k1:W0.heap[w.heap.size]?=some (.cells #[.int .i64 0, .string ⟨#[]⟩, .int .i64 0, .int .i64 0, .int .i64 0, .int .i64 0] 26):=by rw [hW0];exact aj _ _ rfl
 obtain⟨z0,z1,z2,z3,z4,z5,zf⟩:W0.cell? ⟨w.heap.size,0,none⟩=some (.int .i64 0)/\W0.cell? ⟨w.heap.size,1,none⟩=some (.string ⟨#[]⟩)/\W0.cell? ⟨w.heap.size,2,none⟩=some (.int .i64 0)/\W0.cell? ⟨w.heap.size,3,none⟩=some (.int .i64 0)/\W0.cell? ⟨w.heap.size,4,none⟩=some (.int .i64 0)/\W0.cell? ⟨w.heap.size,5,none⟩=some (.int .i64 0)/\∀o,W0.frozen? ⟨w.heap.size,o,none⟩=false:=by simp [World.cell?,World.frozen?,k1]
 have HE:=hdd (gj hb0 aH (.int .i64 3) (.string s) (.int .i64 a) (.int .i64 z) (.int .i64 0) (.int .i64 0))
 go_enter Tryd.func16,Tryd.ntmps16
 go_upto_region 1 with (fail)
 rw [<-hW0]
 clear hW0 hb0 k1
 go_wp2_with fail
 exact bodyPost_ret (v:= .agg #[.int .i64 3, .string s, .int .i64 a, .int .i64 z, .int .i64 0, .int .i64 0]) (by simp [results,Tryd.results16,go_sem, *]) rfl ⟨rfl,HE.out⟩
def abS (w7 wr:World) (R:aw):Prop:=ah w7 wr/\w7.heap.size+2<=wr.heap.size/\Az wr (w7.heap.size+1) R
theorem abS.later {w':World} (h:abS w7 wr R) (hb:ah wr w'):abS w7 w' R:=⟨Below.trans' h.1 hb h.1.size,ik h.2.1 hb.size,h.2.2.later hb⟩
theorem abS.set {S:aw} (h:abS w7 wr R):abS w7 ((((((wr.setCell ⟨w7.heap.size+1,0,none⟩ (.int .i64 S.c)).setCell ⟨w7.heap.size+1,1,none⟩ (.int .i64 S.s)).setCell ⟨w7.heap.size+1,2,none⟩ (.int .i64 S.mi)).setCell ⟨w7.heap.size+1,3,none⟩ (.int .i64 S.ma)).setCell ⟨w7.heap.size+1,4,none⟩ (.int .i64 S.t)).setCell ⟨w7.heap.size+1,5,none⟩ (.int .i64 S.l)) S:=by
 have hlo:w7.heap.size<=w7.heap.size+1:=af
 exact⟨(((((h.1.setCell hlo _).setCell hlo _).setCell hlo _).setCell hlo _).setCell hlo _).setCell hlo _,by simp only [aA];exact h.2.1,⟨LI h.2.2.box⟩⟩
theorem acB {w3 w4 w5 w6:World} {F:List Ac} {lo hi:Int} {vv v6:Value} {cs:Array Value} (sU:Hid (ah w w3)) (nN:Hid (bL w)) (wV:Hid (ah w3 w4)) (Cc:Hid (ah w4 w5)) (Zm:Hid (bN w3.heap.size w4 vv F)) (Il:Hid (F.length<=40)) (HFS:Hid (∀a∈F,a.s.size<=140737488351232))
  (ZW:bN w3.heap.size w6 v6 (F++[⟨3,aaM,lo,hi,0,0⟩])) (WD:(w5.alloc (.cells cs 26)).grownBy w6 vv.ownBlock) :
  Hid (ah w3 w6)/\Hid (Calls Tryd.prog 14 #[v6] w6 (yK (F++[⟨3,aaM,lo,hi,0,0⟩]) w6)):=by
 have h45:=Below.trans' wV.out Cc.out wV.out.size
 have h36:ah w3 w6:=Below.grown (h45.alloc h45.size _) WD (by have:=h45.size;simp;omega) (fun j hj=>(Zm.out.lt j hj).1)
 refine⟨hdd h36,hdd (FO (ZW.at (by have:=Il.out;simp;omega)) (fun a ha=>?_) (by have:=Il.out;simp;omega) (nN.out.below (Below.trans' sU.out h36 sU.out.size)))⟩
 rcases kJ.1 ha with ha|ha
 ·exact HFS.out a ha
 ·rw [mR.1 ha];show aaM.size<=_;decide
theorem abM {v:Value} {xs:List Rw} {acL more:Int} (h:Ar w v xs) (hx:∀a∈xs,a.ok) (yD:i64 acL) (hmo:i64 more) (hsz:bL w) :
  Calls Tryd.prog 3 #[v, .int .i64 acL, .int .i64 more] w fun e w'=>e = .returned (.bool true)/\ah w w':=by
 obtain⟨ao,cap,rfl⟩:=h.isSlice
 have HA:=hdd (show Calls Tryd.prog 12 #[.slice ao xs.length cap, .int .i64 40] w _ from vg (most:=40) h hx aW)
 have nN:=hdd hsz
 have Aw:=hdd (ve (xs:=xs) (most:=40))
 have KS:=hdd (qh (xs:=xs) (most:=40))
 have HFR:=hdd (aL yD hmo)
 clear h hx hsz yD hmo
 go_enter Tryd.func3,Tryd.ntmps3
 go_upto_region 3 with (go_at_call 12;(with_reducible refine HA.out.mono ?_);rintro e w1 ⟨hb1,oa,oc,rfl,hown⟩)
 obtain⟨L,hL⟩:=bt (jh xs 40)
 rw [hL]at hown Aw KS ⊢
 have tX:=hdd hb1
 clear hL hb1 HA
 obtain⟨_,_,hv,q1,q2,q3,q4,q5⟩:=hown.at (by have:=Aw.out;omega)
 injection hv with hv1 _ hv3
 subst hv1 hv3
 clear hown
 have ag3:L.length<=40:=Aw.out
 go_loopg [7,30] L.length (fun g ov i wr=>∃k:Nat,k<=L.length/\g=L.length-k/\i = .int .i64 k/\bN w1.heap.size wr ov ((L.take k).filter fI)/\ah w1 wr)
 case atStart=>exact⟨0,jd _,rfl,rfl,bN.nil _ _,aI _ _⟩
 case round=>
  obtain⟨k,hk,rfl,rfl,ho,hb⟩:=hrel
  obtain⟨so,sc,rfl⟩:=ho.isSlice
  have Il:=hdd (show ((L.take k).filter fI).length<=40 by have h1:=sH fI (L.take k);rw [eP]at h1;omega)
  by_cases hlt:k<L.length
  ·have zJ:(k:Int)<(L.length:Int):=af
   obtain⟨ab,aV,rfl,sO,ac⟩:=q5 af
   obtain⟨c0,c1,c2,c3,c4,c5⟩:=wX (w:=wr) (b:=ab) (off:=aV) (xs:=L) (fun i x hi j u hu=>(hb.cell (p:=⟨ab,_,none⟩) sO).trans (ac i x hi j u hu)) hlt
   have htk:(L.take (k+1)).filter fI=(L.take k).filter fI++(if fI L[k]then [L[k]]else []):=by
    rw [kK hlt,rF]
    congr 1
    by_cases h1:fI L[k]=true
    ·rw [ar h1,rG h1];rfl
    ·rw [ai h1,qB h1];rfl
   obtain⟨a,ha⟩:=bt (L[k])
   rw [ha]at c0 c1 c2 c3 c4 c5 htk
   have jS:=fun w'=>CC (ab:=ab) (aV:=aV) (n:=L.length) (cap:=oc) (show (k:Int)=((k:Nat):Int) by rfl) hlt w'
   obtain⟨F,hF⟩:=bt ((L.take k).filter fI)
   rw [hF]at ho htk Il ⊢
   have sS:=hdd htk
   have HO:=hdd ho
   have HB:=hdd hb
   have HZ:=hdd hb.size
   clear hF htk ha ho hb ac q5
   go_upto_region 5 with (fail)
   obtain⟨W2,hW2⟩:=bP (wr.alloc (.cells a.cs 26))
   have hb2:ah wr W2:=by rw [hW2];exact ag
   have k2:W2.heap[wr.heap.size]?=some (.cells a.cs 26):=by rw [hW2];exact aj _ _ rfl
   obtain⟨x0,x1,x2,x3,x4,x5⟩:W2.cell? ⟨wr.heap.size,0,none⟩=some (.int .i64 a.k)/\W2.cell? ⟨wr.heap.size,1,none⟩=some (.string a.s)/\W2.cell? ⟨wr.heap.size,2,none⟩=some (.int .i64 a.t)/\W2.cell? ⟨wr.heap.size,3,none⟩=some (.int .i64 a.z)/\W2.cell? ⟨wr.heap.size,4,none⟩=some (.int .i64 a.sz)/\W2.cell? ⟨wr.heap.size,5,none⟩=some (.int .i64 a.v):=by simp [World.cell?,k2,Ac.cs]
   have wU:=hdd (HO.out.below hb2 aH)
   have gI:=hdd (Below.trans' HB.out hb2 HZ.out)
   rw [<-hW2]
   clear hW2 hb2 k2 c0 c1 c2 c3 c4 c5 jS
   by_cases h2:a.k=5
   ·have d2:(a.k != 5)=false:=by simp [h2]
    have HN:=hdd (show fI a=false by simp [fI,h2])
    clear h2
    go_wp2_with fail
    go_roundg (L.length-(k+1))
    case measure=>omega
    case rel=>exact⟨k+1,af,rfl,by go_num,by rw [sS.out,HN.out];simpa using wU.out,gI.out⟩
   ·by_cases h3:a.k=6
    ·have d2:(a.k != 5)=true:=by simp [h2]
     have d3:(a.k != 6)=false:=by simp [h3]
     have HN:=hdd (show fI a=false by simp [fI,h3])
     clear h2 h3
     go_wp2_with fail
     go_roundg (L.length-(k+1))
     case measure=>omega
     case rel=>exact⟨k+1,af,rfl,by go_num,by rw [sS.out,HN.out];simpa using wU.out,gI.out⟩
    ·have d2:(a.k != 5)=true:=by simp [h2]
     have d3:(a.k != 6)=true:=by simp [h3]
     have HN:=hdd (show fI a=true by simp [fI,h2,h3])
     have Fk:=hdd gI.out.size
     clear h2 h3
     go_wp2_with (at_builtin;refine fT rfl (.tmp 42) (.tmp 44) rfl w1.heap.size _ F rfl (wU.out.alloc _) ⟨_,0,none⟩ a rfl (fun j u h=>vz h) (by have:=Il.out;omega) (by have:=Fk.out;simp;omega) ?_;intro v4 w4 pN hg4 hv4)
     go_roundg (L.length-(k+1))
     case measure=>omega
     case rel=>exact⟨k+1,af,rfl,by go_num,by rw [sS.out,HN.out];exact pN,Below.grown (gI.out.alloc gI.out.size _) hg4 (by have:=Fk.out;simp;omega) (fun j hj=>(wU.out.lt j hj).1)⟩
  ·obtain rfl:k=L.length:=af
   have hfl:(L.take L.length).filter fI=L.filter fI:=by rw [List.take_length]
   obtain⟨F,hF⟩:=bt (L.filter fI)
   rw [hfl,hF]at ho Il ⊢
   have HFK:=hdd (show ∀a∈F,a.k≠5/\a.k≠6 from fun a ha=>by
    rw [<-hF]at ha
    have:=(mn.1 ha).2
    simpa [fI] using this)
   have HFS:=hdd (show ∀a∈F,a.s.size<=140737488351232 from fun a ha=>by
    rw [<-hF]at ha;exact KS.out a (mn.1 ha).1)
   have hB0:=Below.trans' tX.out hb tX.out.size
   obtain⟨wo,rfl⟩:=bP (wr)
   have HB:=hdd hB0
   have HO:=hdd ho
   have gD:=hdd (aas (w:=wo) (m:=9000) HFR.out.1 aW aW)
   have nH:=hdd fun W=>aas (w:=W) (m:=9000) HFR.out.2 aW aW
   have hp1:=cU (n:=acL) (m:=9000) aW
   have hp2:=cU (n:=more) (m:=9000) aW
   obtain⟨lo,hlo⟩:=bt (picked acL 9000)
   obtain⟨up,hup⟩:=bt (picked more 9000)
   rw [hlo]at gD hp1
   rw [hup]at nH hp2
   have hw1:IntKind.i64.wrap (lo+up)=lo+up:=IntWalk.i64_in _ af
   have nY:=hdd (show cT lo (lo+up)from ⟨af,af,af⟩)
   clear hfl hF hb ho hB0 hlo hup q5 hp1 hp2
   go_upto_region 9 with (go_at_call 13;(with_reducible refine gD.out.mono ?_);rintro e w2 ⟨rfl,hb2⟩)
   go_upto_region 10 with (go_at_call 13;(with_reducible refine(nH.out _).mono ?_);rintro e w3 ⟨rfl,hb3⟩)
   obtain⟨hi,hhi⟩:=bt (lo+up)
   rw [hhi]at nY hw1 ⊢
   have sU:=hdd (Below.trans' HB.out (Below.trans' hb2 hb3 hb2.size) HB.out.size)
   have Vo:=hdd (HO.out.below (Below.trans' hb2 hb3 hb2.size) aH)
   have HHI:=hdd hhi
   have yr:=hdd (EZ (Vo.out.at (by have:=Il.out;omega)))
   have HAK:=hdd fun W=>ady (s:=⟨#[99,112,117]⟩) (a:=lo) (z:=hi) (w:=W)
   clear hb2 hb3 hhi hw1 gD nH
   go_upto_region 11 with (first
    |(go_at_call 15;(with_reducible refine yr.out.mono ?_);rintro e w4 ⟨v4,rfl,ade,hb4⟩;obtain⟨vo,vc,rfl⟩:=ade.isSlice;have wV:=hdd hb4;have Zm:=hdd ade;clear ade hb4)
    |(go_at_call 16;(with_reducible refine(HAK.out _).mono ?_);rintro e w5 ⟨rfl,cu⟩;have Cc:=hdd cu;clear cu)
    |(at_builtin;refine sW rfl (.tmp 55) (.tmp 59) rfl w3.heap.size w5.heap.size _ _ F [⟨3,aaM,lo,hi,0,0⟩] rfl rfl ((Zm.out.below Cc.out aH).alloc _) (bN.lit (ys:=[⟨3,aaM,lo,hi,0,0⟩]) (aj _ _ rfl) aH (show 1<=maxLen by decide) rfl) (by have:=Il.out;simp;omega) (by have:=wV.out.size;have:=Cc.out.size;simp;omega) ?_;intro v6 w6 ZW WD;obtain⟨pA,vF⟩:=acB sU nN wV Cc Zm Il HFS ZW WD;clear ZW WD)
    |(go_at_call 14;(with_reducible refine vF.out.mono ?_);rintro e w7 ⟨qE,oo,ocp,qs,b,sa,sd,g0,l0,p0,g1,l1,p1,g2,l2,p2,rfl,YO,hown,hrows,-,-,hok⟩))
   obtain⟨W9,jz⟩:=bP ((w7.alloc (.cells (aG sa b.names.length sd g0 l0 p0 g1 l1 p1 g2 l2 p2 b) 35)).alloc (.cells #[.int .i64 0, .int .i64 0, .int .i64 0, .int .i64 0, .int .i64 0, .int .i64 0] 42))
   have aeg:ah w7 W9:=by rw [jz];exact ag
   have k9:Az W9 (w7.heap.size+1) aw.zero:=⟨by rw [jz];exact aj _ _ bj⟩
   have h37:=Below.trans' pA.out qE pA.out.size
   have xS:=hdd (Below.trans' sU.out h37 sU.out.size)
   have PI:W9.heap.size=w7.heap.size+2:=by rw [jz];simp
   have HS9:=hdd (aL aeg (aL (show w7.heap.size+2<=W9.heap.size by omega) k9))
   obtain⟨a9,-⟩:=abw YO hown hrows hok (by have:=Il.out;simp;omega) (W:=w7) (aI _ _)
   have PR:qs.length=F.length+1:=by
    have:=congrArg List.length YO
    rw [oJ,uj,dO]at this
    simpa using this
   have HAN:=hdd fun(k:Nat) (hk:k<F.length) (hq:k<qs.length)=>ad4 YO hk hq
   have RL:=hdd fun(hq:F.length<qs.length)=>ad3 YO hq
   obtain⟨_,_,hv,-,-,-,-,e5⟩:=a9
   injection hv with hv1 _ hv3
   subst hv1 hv3
   obtain⟨eb,eB,rfl,ebb,ec⟩:=e5 af
   obtain⟨_,_,hv,-,-,-,-,f5⟩:=(Vo.out.below h37 aH).at (by have:=Il.out;omega)
   injection hv with hv1 _ hv3
   subst hv1 hv3
   have HE5:=hdd ec
   have HF5:=hdd f5
   have aie:F.length<=40:=Il.out
   clear YO hown hrows hok qE aeg h37 k9 ec f5 e5 PI
   go_upto_region 14 with (fail)
   rw [<-jz]
   clear jz
   go_upto_region 17 with (fail)
   go_loopg [16,17,70] F.length (fun g fv av iv wr=>∃k:Nat,k<=F.length/\g=F.length-k/\fv = .int .i64 (gK St.zero (F.take k)).m.fl/\av = .bool (abR aaM (aa8 St.zero (F.take k)))/\iv = .int .i64 k/\Hid (abS w7 wr aw.zero))
   case atStart=>exact⟨0,jd _,rfl,rfl,rfl,rfl,hdd HS9.out⟩
   case round=>
    obtain⟨k,hk,rfl,rfl,rfl,rfl,HTB⟩:=hrel
    have hb:=HTB.out.1
    by_cases hlt:k<F.length
    ·have zJ:(k:Int)<(F.length:Int):=af
     have PV:k<qs.length:=af
     have aec:(k:Int)<(qs.length:Int):=af
     obtain⟨fb,adg,rfl,fbb,fc⟩:=HF5.out af
     obtain⟨c0,c1,c2,c3,c4,c5⟩:=wX (w:=wr) (b:=fb) (off:=adg) (xs:=F) (fun i x hi j u hu=>(hb.cell (p:=⟨fb,_,none⟩) fbb).trans (fc i x hi j u hu)) hlt
     have HFS:=hdd (acF HFK.out hlt)
     have HNS:=hdd (ad1 (s:=aaM) hlt)
     have HAK:=hdd (HAN.out k hlt PV)
     have HDC:=hdd fun W (h:ah w7 W)=>(K4 (w:=W) (b:=eb) (off:=eB) (xs:=qs) (fun i x hi j u hu=>(h.cell (p:=⟨eb,_,none⟩) ebb).trans (HE5.out i x hi j u hu)) PV).1
     obtain⟨a,ha⟩:=bt (F[k])
     obtain⟨q,hq⟩:=bt (qs[k])
     rw [ha]at c0 c1 c2 c3 c4 c5 HFS HNS HAK
     rw [hq]at HDC HAK
     rw [<-HAK.out]at HFS HNS
     obtain⟨c,hc⟩:=bt (q.an.code)
     rw [hc]at HFS HNS HDC
     obtain⟨f0,hf0⟩:=bt ((gK St.zero (F.take k)).m.fl)
     obtain⟨bv,sj⟩:=bt (abR aaM (aa8 St.zero (F.take k)))
     rw [hf0]at HFS ⊢
     rw [sj]at HNS ⊢
     have jS:=fun w'=>CC (ab:=fb) (aV:=adg) (n:=F.length) (cap:=sc) (show (k:Int)=((k:Nat):Int) by rfl) hlt w'
     have hiy:=fun w'=>PE (ab:=eb) (aV:=eB) (n:=qs.length) (cap:=ocp) (show (k:Int)=((k:Nat):Int) by rfl) PV w'
     have HB:=hdd hb
     clear hb fc ha hq hc hf0 sj HAK
     go_upto_region 19 with (fail)
     obtain⟨W2,hW2⟩:=bP (wr.alloc (.cells a.cs 26))
     have hb2:ah wr W2:=by rw [hW2];exact ag
     have k2:W2.heap[wr.heap.size]?=some (.cells a.cs 26):=by rw [hW2];exact aj _ _ rfl
     obtain⟨x0,x1,x2,x3,x4,x5⟩:W2.cell? ⟨wr.heap.size,0,none⟩=some (.int .i64 a.k)/\W2.cell? ⟨wr.heap.size,1,none⟩=some (.string a.s)/\W2.cell? ⟨wr.heap.size,2,none⟩=some (.int .i64 a.t)/\W2.cell? ⟨wr.heap.size,3,none⟩=some (.int .i64 a.z)/\W2.cell? ⟨wr.heap.size,4,none⟩=some (.int .i64 a.sz)/\W2.cell? ⟨wr.heap.size,5,none⟩=some (.int .i64 a.v):=by simp [World.cell?,k2,Ac.cs]
     have gI:=hdd (show abS w7 W2 aw.zero from HTB.out.later hb2)
     have y0:=HDC.out _ gI.out.1
     rw [<-hW2]
     clear hW2 hb2 k2 c0 c1 c2 c3 c4 c5 jS
     have K5:=adk a.s
     cases bv
     ·by_cases h4:a.k=4
      ·have h41:(a.k == 1)=false:=by simp [h4]
       by_cases h0:c=0
       ·skip
        have d4:(a.k == 4)=true:=by simp [h4]
        have d0:(c == 0)=true:=by simp [h0]
        have HF:=hdd (HFS.out.trans (ar ⟨h4,h0⟩))
        have HN:=hdd (HNS.out.trans (show _=false by simp [h4]))
        clear h4 h0
        go_wp2_with fail
        go_roundg (F.length-(k+1))
        case measure=>omega
        case rel=>exact⟨k+1,af,rfl,by rw [HF.out],by rw [HN.out],by go_num,gI⟩
       ·skip
        have d4:(a.k == 4)=true:=by simp [h4]
        have d0:(c == 0)=false:=by simp [h0]
        have HF:=hdd (HFS.out.trans (ai fun h=>h0 h.2))
        have HN:=hdd (HNS.out.trans (show _=false by simp [h4]))
        clear h4 h0
        go_wp2_with fail
        go_roundg (F.length-(k+1))
        case measure=>omega
        case rel=>exact⟨k+1,af,rfl,by rw [HF.out],by rw [HN.out],by go_num,gI⟩
      ·by_cases h1:a.k=1
       ·by_cases h0:c=0
        ·by_cases h2:a.s=aaM
         ·have h2':decide (a.s=⟨#[99,112,117]⟩)=true:=decide_eq_true h2
          rw [h2']at K5
          have d4:(a.k == 4)=false:=by simp [h4]
          have d0:(c == 0)=true:=by simp [h0]
          have d1:(a.k == 1)=true:=by simp [h1]
          have HF:=hdd (HFS.out.trans (ai fun h=>h4 h.1))
          have HN:=hdd (HNS.out.trans (show _=true by simp [h1,h0,h2]))
          clear h4 h0 h1 h2
          go_wp2_with fail
          go_roundg (F.length-(k+1))
          case measure=>omega
          case rel=>exact⟨k+1,af,rfl,by rw [HF.out],by rw [HN.out],by go_num,gI⟩
         ·have h2':decide (a.s=⟨#[99,112,117]⟩)=false:=wJ h2
          rw [h2']at K5
          have d4:(a.k == 4)=false:=by simp [h4]
          have d0:(c == 0)=true:=by simp [h0]
          have d1:(a.k == 1)=true:=by simp [h1]
          have HF:=hdd (HFS.out.trans (ai fun h=>h4 h.1))
          have HN:=hdd (HNS.out.trans (show _=false by simp [h1,h0,h2]))
          clear h4 h0 h1 h2
          go_wp2_with fail
          go_roundg (F.length-(k+1))
          case measure=>omega
          case rel=>exact⟨k+1,af,rfl,by rw [HF.out],by rw [HN.out],by go_num,gI⟩
        ·skip
         have d4:(a.k == 4)=false:=by simp [h4]
         have d0:(c == 0)=false:=by simp [h0]
         have d1:(a.k == 1)=true:=by simp [h1]
         have HF:=hdd (HFS.out.trans (ai fun h=>h4 h.1))
         have HN:=hdd (HNS.out.trans (show _=false by simp [h0]))
         clear h4 h0 h1
         go_wp2_with fail
         go_roundg (F.length-(k+1))
         case measure=>omega
         case rel=>exact⟨k+1,af,rfl,by rw [HF.out],by rw [HN.out],by go_num,gI⟩
       ·skip
        have d4:(a.k == 4)=false:=by simp [h4]
        have d1:(a.k == 1)=false:=by simp [h1]
        have HF:=hdd (HFS.out.trans (ai fun h=>h4 h.1))
        have HN:=hdd (HNS.out.trans (show _=false by simp [h1]))
        clear h4 h1
        go_wp2_with fail
        go_roundg (F.length-(k+1))
        case measure=>omega
        case rel=>exact⟨k+1,af,rfl,by rw [HF.out],by rw [HN.out],by go_num,gI⟩
     ·by_cases h4:a.k=4
      ·by_cases h0:c=0
       ·skip
        have d4:(a.k == 4)=true:=by simp [h4]
        have d0:(c == 0)=true:=by simp [h0]
        have HF:=hdd (HFS.out.trans (ar ⟨h4,h0⟩))
        have HN:=hdd (HNS.out.trans (show _=true by simp))
        clear h4 h0
        go_wp2_with fail
        go_roundg (F.length-(k+1))
        case measure=>omega
        case rel=>exact⟨k+1,af,rfl,by rw [HF.out],by rw [HN.out],by go_num,gI⟩
       ·skip
        have d4:(a.k == 4)=true:=by simp [h4]
        have d0:(c == 0)=false:=by simp [h0]
        have HF:=hdd (HFS.out.trans (ai fun h=>h0 h.2))
        have HN:=hdd (HNS.out.trans (show _=true by simp))
        clear h4 h0
        go_wp2_with fail
        go_roundg (F.length-(k+1))
        case measure=>omega
        case rel=>exact⟨k+1,af,rfl,by rw [HF.out],by rw [HN.out],by go_num,gI⟩
      ·skip
       have d4:(a.k == 4)=false:=by simp [h4]
       have HF:=hdd (HFS.out.trans (ai fun h=>h4 h.1))
       have HN:=hdd (HNS.out.trans (show _=true by simp))
       clear h4
       go_wp2_with fail
       go_roundg (F.length-(k+1))
       case measure=>omega
       case rel=>exact⟨k+1,af,rfl,by rw [HF.out],by rw [HN.out],by go_num,gI⟩
    ·obtain rfl:k=F.length:=af
     obtain⟨wo2,rfl⟩:=bP (wr)
     have HFT:=hdd (show F.take F.length=F from List.take_length)
     have hft:=HFT.out
     rw [hft]
     obtain⟨fl,hfl⟩:=bt ((gK St.zero F).m.fl)
     obtain⟨bv,sj⟩:=bt (abR aaM (aa8 St.zero F))
     rw [hfl,sj]
     have ah7:=hdd hfl
     have vr:=hdd sj
     clear hb hft hfl sj
     go_upto_region 24 with (fail)
     go_loopg [110] F.length (fun g iv wr=>∃k:Nat,k<=F.length/\g=F.length-k/\iv = .int .i64 k/\Hid (abS w7 wr (ab1 (aa8 St.zero (F.take k)) fl aaM lo hi)))
     case atStart=>exact⟨0,jd _,rfl,rfl,HTB⟩
     case round=>
      obtain⟨k,hk,rfl,rfl,HR⟩:=hrel
      by_cases hlt:k<F.length
      ·have hb:=HR.out.1
       have zJ:(k:Int)<(F.length:Int):=af
       have PV:k<qs.length:=af
       have aec:(k:Int)<(qs.length:Int):=af
       obtain⟨fb,adg,rfl,fbb,fc⟩:=HF5.out af
       obtain⟨c0,c1,c2,c3,c4,c5⟩:=wX (w:=wr) (b:=fb) (off:=adg) (xs:=F) (fun i x hi j u hu=>(hb.cell (p:=⟨fb,_,none⟩) fbb).trans (fc i x hi j u hu)) hlt
       have HAK:=hdd (HAN.out k hlt PV)
       have HY:=hdd (abY (s:=aaM) (fl:=fl) (lo:=lo) (hi:=hi) hlt)
       have nI:=hdd (aca (s:=aaM) (fl:=fl) (lo:=lo) (hi:=hi) hlt)
       have HPT:=hdd (adp HFK.out hlt)
       have nA:=hdd (adL (k:=k) (s:=aaM) (fl:=fl) (lo:=lo) (hi:=hi) HFK.out af)
       have HDC:=hdd fun W (h:ah w7 W)=>(K4 (w:=W) (b:=eb) (off:=eB) (xs:=qs) (fun i x hi j u hu=>(h.cell (p:=⟨eb,_,none⟩) ebb).trans (HE5.out i x hi j u hu)) PV).1
       obtain⟨a,ha⟩:=bt (F[k])
       obtain⟨q,hq⟩:=bt (qs[k])
       rw [ha]at c0 c1 c2 c3 c4 c5 HY nI HPT HAK
       rw [hq]at HDC HAK
       rw [<-HAK.out]at HY nI HPT
       obtain⟨c,hc⟩:=bt (q.an.code)
       rw [hc]at HY nI HPT HDC
       obtain⟨R,hR⟩:=bt (ab1 (aa8 St.zero (F.take k)) fl aaM lo hi)
       rw [hR]at HY nI nA HR
       have jS:=fun w'=>CC (ab:=fb) (aV:=adg) (n:=F.length) (cap:=sc) (show (k:Int)=((k:Nat):Int) by rfl) hlt w'
       have hiy:=fun w'=>PE (ab:=eb) (aV:=eB) (n:=qs.length) (cap:=ocp) (show (k:Int)=((k:Nat):Int) by rfl) PV w'
       clear hb fc ha hq hc hR HAK
       go_upto_region 26 with (fail)
       obtain⟨W2,hW2⟩:=bP (wr.alloc (.cells a.cs 26))
       have hb2:ah wr W2:=by rw [hW2];exact ag
       have k2:W2.heap[wr.heap.size]?=some (.cells a.cs 26):=by rw [hW2];exact aj _ _ rfl
       have hz2:wr.heap.size<W2.heap.size:=by rw [hW2];simp
       have HXC:=hdd fun W (hb:ah W2 W)=>(by
        have b0:=(hb.block wr.heap.size hz2).trans k2
        simp [World.cell?,b0,Ac.cs]:W.cell? ⟨wr.heap.size,0,none⟩=some (.int .i64 a.k)/\W.cell? ⟨wr.heap.size,1,none⟩=some (.string a.s)/\W.cell? ⟨wr.heap.size,2,none⟩=some (.int .i64 a.t)/\W.cell? ⟨wr.heap.size,5,none⟩=some (.int .i64 a.v))
       obtain⟨x0,x1,x2,x5⟩:=HXC.out _ (aI _ _)
       have gI:=hdd (show abS w7 W2 R from HR.out.later hb2)
       have y0:=HDC.out _ gI.out.1
       rw [<-hW2]
       clear hW2 hb2 k2 hz2 c0 c1 c2 c3 c4 c5 jS HR
       have K5:=adk a.s
       by_cases h1:a.k=1
       ·by_cases h0:c=0
        ·by_cases h2:a.s=aaM
         ·have h2':decide (a.s=⟨#[99,112,117]⟩)=true:=decide_eq_true h2
          rw [h2']at K5
          have YM:(a.s.toList != [99,112,117])=false:=by rw [bne,K5];rfl
          by_cases h3:a.t<lo
          ·skip
           have d1:(a.k != 1)=false:=by simp [h1]
           have d0:(c != 0)=false:=by simp [h0]
           have d3:decide (a.t<lo)=true:=decide_eq_true h3
           have HN:=hdd (nI.out (fun h=>absurd h.2.2.2.1 af))
           clear h1 h0 h2
           go_wp2_with fail
           go_roundg (F.length-(k+1))
           case measure=>omega
           case rel=>exact⟨k+1,af,rfl,by go_num,hdd (by rw [HN.out];exact gI.out)⟩
          ·by_cases h4:hi<a.t
           ·skip
            have d1:(a.k != 1)=false:=by simp [h1]
            have d0:(c != 0)=false:=by simp [h0]
            have d3:decide (a.t<lo)=false:=wJ h3
            have d4:decide (hi<a.t)=true:=decide_eq_true h4
            have HN:=hdd (nI.out (fun h=>absurd h.2.2.2.2.1 af))
            clear h1 h0 h2
            go_wp2_with fail
            go_roundg (F.length-(k+1))
            case measure=>omega
            case rel=>exact⟨k+1,af,rfl,by go_num,hdd (by rw [HN.out];exact gI.out)⟩
           ·by_cases h5:a.t<fl
            ·skip
             have d1:(a.k != 1)=false:=by simp [h1]
             have d0:(c != 0)=false:=by simp [h0]
             have d3:decide (a.t<lo)=false:=wJ h3
             have d4:decide (hi<a.t)=false:=wJ h4
             have d5:decide (a.t<fl)=true:=decide_eq_true h5
             have HN:=hdd (nI.out (fun h=>absurd h.2.2.2.2.2 af))
             clear h1 h0 h2
             go_wp2_with fail
             go_roundg (F.length-(k+1))
             case measure=>omega
             case rel=>exact⟨k+1,af,rfl,by go_num,hdd (by rw [HN.out];exact gI.out)⟩
            ·skip
             have d1:(a.k != 1)=false:=by simp [h1]
             have d0:(c != 0)=false:=by simp [h0]
             have d3:decide (a.t<lo)=false:=wJ h3
             have d4:decide (hi<a.t)=false:=wJ h4
             have d5:decide (a.t<fl)=false:=wJ h5
             have HYY:=hdd (HY.out h1 h0 h2 af af af)
             have Zj:=hdd (HPT.out h1 h0)
             clear h1 h0 h2
             have N9:=hdd (show Calls Tryd.prog 17 #[.int .i64 a.t, .int .i64 a.v] W2 fun e w'=>e = .returned (.tuple #[.agg #[.int .i64 1, .int .i64 a.v, .int .i64 a.v, .int .i64 a.v, .int .i64 a.t, .int .i64 a.v], .int .i64 0])/\ah W2 w' by
              have:=Gf a.t a.v W2
              rw [show fF a.t a.v=(⟨1,a.v,a.v,a.v,a.t,a.v⟩,0)from ar Zj.out]at this
              exact this)
             go_upto_region 28 with (go_at_call 17;(with_reducible refine N9.out.mono ?_);rintro e w6' ⟨rfl,jf⟩)
             obtain⟨W6,tV⟩:=bP (w6'.alloc (.cells #[.int .i64 1, .int .i64 a.v, .int .i64 a.v, .int .i64 a.v, .int .i64 a.t, .int .i64 a.v] 42))
             have aeh:ah w6' W6:=by rw [tV];exact ag
             have k6:Az W6 w6'.heap.size ⟨1,a.v,a.v,a.v,a.t,a.v⟩:=by rw [tV];exact Az.new _ ⟨1,a.v,a.v,a.v,a.t,a.v⟩
             have aes:=hdd ((gI.out.later jf).later aeh)
             have hmg:=(qU nA.out.1 (acs Zj.out.1 Zj.out.2.1 Zj.out.2.2.1 Zj.out.2.2.2) (by have h1:=nA.out.2.1;show R.c+1<=1073741824;omega)).1
             obtain⟨J,hJ⟩:=bt (R.join ⟨1,a.v,a.v,a.v,a.t,a.v⟩)
             rw [hJ]at hmg HYY
             have HM:=hdd (show Calls Tryd.prog 18 #[.agg #[.int .i64 R.c, .int .i64 R.s, .int .i64 R.mi, .int .i64 R.ma, .int .i64 R.t, .int .i64 R.l], .agg #[.int .i64 1, .int .i64 a.v, .int .i64 a.v, .int .i64 a.v, .int .i64 a.t, .int .i64 a.v]] W6 fun e w'=>e = .returned (.tuple #[.agg #[.int .i64 J.c, .int .i64 J.s, .int .i64 J.mi, .int .i64 J.ma, .int .i64 J.t, .int .i64 J.l], .int .i64 0])/\ah W6 w' by
              have:=jQ R ⟨1,a.v,a.v,a.v,a.t,a.v⟩ W6
              rw [hmg]at this
              exact this)
             obtain⟨z0,z1,z2,z3,z4,z5⟩:=aes.out.2.2.cells
             obtain⟨Jn,y1,y2,y3,y4,y5⟩:W6.cell? ⟨w6'.heap.size,0,none⟩=some (.int .i64 1)/\W6.cell? ⟨w6'.heap.size,1,none⟩=some (.int .i64 a.v)/\W6.cell? ⟨w6'.heap.size,2,none⟩=some (.int .i64 a.v)/\W6.cell? ⟨w6'.heap.size,3,none⟩=some (.int .i64 a.v)/\W6.cell? ⟨w6'.heap.size,4,none⟩=some (.int .i64 a.t)/\W6.cell? ⟨w6'.heap.size,5,none⟩=some (.int .i64 a.v):=k6.cells
             rw [<-tV]
             clear tV jf aeh k6 hmg hJ x0 x1 x2 x5 y0 N9
             go_upto_region 31 with (go_at_call 18;(with_reducible refine HM.out.mono ?_);rintro e w8' ⟨rfl,kS⟩)
             obtain⟨W8,mM⟩:=bP (w8'.alloc (.cells #[.int .i64 J.c, .int .i64 J.s, .int .i64 J.mi, .int .i64 J.ma, .int .i64 J.t, .int .i64 J.l] 42))
             have aef:ah w8' W8:=by rw [mM];exact ag
             have k8:Az W8 w8'.heap.size J:=by rw [mM];exact Az.new _ J
             have aeq:=hdd ((aes.out.later kS).later aef)
             obtain⟨j0,j1,j2,j3,j4,j5⟩:=k8.cells
             have kb8:=aeq.out.2.2.box
             obtain⟨z0,z1,z2,z3,z4,z5,zf⟩:W8.cell? ⟨w7.heap.size+1,0,none⟩=some (.int .i64 R.c)/\W8.cell? ⟨w7.heap.size+1,1,none⟩=some (.int .i64 R.s)/\W8.cell? ⟨w7.heap.size+1,2,none⟩=some (.int .i64 R.mi)/\W8.cell? ⟨w7.heap.size+1,3,none⟩=some (.int .i64 R.ma)/\W8.cell? ⟨w7.heap.size+1,4,none⟩=some (.int .i64 R.t)/\W8.cell? ⟨w7.heap.size+1,5,none⟩=some (.int .i64 R.l)/\∀o,W8.frozen? ⟨w7.heap.size+1,o,none⟩=false:=by simp [World.cell?,World.frozen?,kb8]
             rw [<-mM]
             clear mM kS aef k8 kb8 Jn y1 y2 y3 y4 y5
             go_wp2_with fail
             go_roundg (F.length-(k+1))
             case measure=>omega
             case rel=>exact⟨k+1,af,rfl,by go_num,hdd (by rw [HYY.out];exact aeq.out.set)⟩
         ·have h2':decide (a.s=⟨#[99,112,117]⟩)=false:=wJ h2
          rw [h2']at K5
          have YM:(a.s.toList != [99,112,117])=true:=by rw [bne,K5];rfl
          have d1:(a.k != 1)=false:=by simp [h1]
          have d0:(c != 0)=false:=by simp [h0]
          have HN:=hdd (nI.out (fun h=>h2 h.2.2.1))
          clear h1 h0 h2
          go_wp2_with fail
          go_roundg (F.length-(k+1))
          case measure=>omega
          case rel=>exact⟨k+1,af,rfl,by go_num,hdd (by rw [HN.out];exact gI.out)⟩
        ·skip
         have d1:(a.k != 1)=false:=by simp [h1]
         have d0:(c != 0)=true:=by simp [h0]
         have HN:=hdd (nI.out (fun h=>h0 h.2.1))
         clear h1 h0
         go_wp2_with fail
         go_roundg (F.length-(k+1))
         case measure=>omega
         case rel=>exact⟨k+1,af,rfl,by go_num,hdd (by rw [HN.out];exact gI.out)⟩
       ·skip
        have d1:(a.k != 1)=true:=by simp [h1]
        have HN:=hdd (nI.out (fun h=>h1 h.1))
        clear h1
        go_wp2_with fail
        go_roundg (F.length-(k+1))
        case measure=>omega
        case rel=>exact⟨k+1,af,rfl,by go_num,hdd (by rw [HN.out];exact gI.out)⟩
      ·obtain rfl:k=F.length:=af
       have PV:F.length<qs.length:=af
       have aec:(F.length:Int)<(qs.length:Int):=af
       have hft:=HFT.out
       rw [hft]at HR
       have UZ:=acE (s:=aaM) HFK.out nY.out
       have heq:=RL.out PV
       rw [ah7.out,vr.out,<-heq]at UZ
       obtain⟨S,hS⟩:=bt (ab1 (aa8 St.zero F) fl aaM lo hi)
       rw [hS]at UZ HR
       obtain⟨c0,c1,c2,c3,c4,c5,c6,c7⟩:=K4 (w:=wr) (b:=eb) (off:=eB) (xs:=qs) (fun i x hi j u hu=>(HR.out.1.cell (p:=⟨eb,_,none⟩) ebb).trans (HE5.out i x hi j u hu)) PV
       obtain⟨Q,hQ⟩:=bt (qs[F.length])
       rw [hQ]at c0 c1 c2 c3 c4 c5 c6 c7 UZ
       have hiy:=fun w'=>PE (ab:=eb) (aV:=eB) (n:=qs.length) (cap:=ocp) (show (F.length:Int)=((F.length:Nat):Int) by rfl) PV w'
       have Ry:=hdd UZ
       clear hft heq UZ hS hQ
       go_upto_region 34 with (fail)
       obtain⟨W3,hW3⟩:=bP (wr.alloc (.cells Q.cs 45))
       have hb3:ah wr W3:=by rw [hW3];exact ag
       have k3:W3.heap[wr.heap.size]?=some (.cells Q.cs 45):=by rw [hW3];exact aj _ _ rfl
       have sU:=hdd (HR.out.later hb3)
       rw [<-hW3]
       clear hW3 hb3 c0 c1 c2 c3 c4 c5 c6 c7 hiy HR
       obtain⟨⟨cd,is,rows⟩,ro,rn,rp⟩:=Q
       cases bv
       ·obtain rfl:cd=6:=Ry.out.1 rfl
        obtain⟨x0,x1,x2,x3,x4,x5,x6,x7,-⟩:=fh k3
        clear k3
        go_wp2_with fail
        go_ret
        exact⟨rfl,Below.trans' xS.out sU.out.1 xS.out.size⟩
       ·obtain⟨rfl,rfl⟩:cd=0/\is=S:=Ry.out.2 rfl
        obtain⟨x0,x1,x2,x3,x4,x5,x6,x7,-⟩:=fh k3
        obtain⟨z0,z1,z2,z3,z4,z5⟩:=sU.out.2.2.cells
        clear k3
        go_wp2_with fail
        go_ret
        exact⟨rfl,Below.trans' xS.out sU.out.1 xS.out.size⟩
end Go.Proofs.YtmljjfhgciaceaaDoor
