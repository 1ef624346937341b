import Derived.Test.YtmljjfhgciaceaaDoorHd
import Derived.Test.YtmljjfhgciaceaaDoorAY
import Derived.Test.YtmljjfhgciaceaaDoorRefBase
import Derived.Test.YtmljjfhgciaceaaDoorRefAdd
import Derived.Test.YtmljjfhgciaceaaDoorLawBaseCopies
import Derived.Test.YtmljjfhgciaceaaDoorBK
namespace Go.Proofs.YtmljjfhgciaceaaDoor
open Go.RowKit
set_option maxRecDepth 100000
set_option maxHeartbeats 4000000
variable {b:Ba} {s:ByteArray} {time value:Int} {w:World}
def aji (b:Ba) (s:ByteArray) (time value:Int) (w':World) (sa:Option Addr) (nn sc:Nat) (g0:Option Addr) (l0 p0:Nat) (r0:Int) (g1:Option Addr) (l1 p1:Nat) (r1:Int) (g2:Option Addr) (l2 p2:Nat) (r2 fl E2:Int):Prop:=
 (E2≠0/\(sa=none/\nn=0/\sc=0)/\(g0=none/\l0=0/\p0=0/\r0=0)/\(g1=none/\l1=0/\p1=0/\r1=0)/\(g2=none/\l2=0/\p2=0/\r2=0)/\fl=0/\(E2=ny b s time value\/(ny b s time value=0/\E2=1/\∃k,k<3/\200<(b.tree k).nodes.length))) \/
 (E2=0/\ny b s time value=0/\∃b',bO w' (.agg #[.slice sa nn sc, .slice g0 l0 p0, .int .i64 r0, .slice g1 l1 p1, .int .i64 r1, .slice g2 l2 p2, .int .i64 r2, .int .i64 fl]) b'/\b'.names=bC b s/\b'.floor=b.floor/\aO b'=true/\bY b'=some (Ff b s time value))
theorem aiK {k:Nat} (hm:aO b=true) (hk:k<3) (hw:3001<nC (b.tree k)):200<(b.tree k).nodes.length:=by
 obtain⟨l0,-,-,-,hT⟩:=aaK hm
 obtain⟨-,g2⟩:=cS (hT k hk).1
 obtain⟨l,h,-,hf⟩:=yN g2
 have:=hf.VB
 omega
theorem ah8 {v:Value} (h:bO w v b) (hst:∀s∈b.names,s.size<=140737488351232) (xB:s.size<=140737488351232) (hsz:bL w) :
  Calls Tryd.prog 22 #[v, .agg #[.string s, .int .i64 time, .int .i64 value]] w fun x w'=>ah w w'/\∃sa nn sc g0 l0 p0 r0 g1 l1 p1 r1 g2 l2 p2 r2 fl E2,x = .returned (.tuple #[.agg #[.slice sa nn sc, .slice g0 l0 p0, .int .i64 r0, .slice g1 l1 p1, .int .i64 r1, .slice g2 l2 p2, .int .i64 r2, .int .i64 fl], .int .i64 E2])/\aji b s time value w' sa nn sc g0 l0 p0 r0 g1 l1 p1 r1 g2 l2 p2 r2 fl E2:=by
 refine(xL h hst xB hsz).mono ?_
 rintro x w' ⟨hb,⟨h1,rfl⟩|⟨h1,⟨E,hE,rfl,h2⟩|⟨h2,b',sa,sc,g0,l0,p0,g1,l1,p1,g2,l2,p2,rfl,h3,h4,h5,h6,h7,-⟩⟩⟩
 ·have e:ny b s time value=jw b s time value:=by unfold ny;rw [ar h1]
  exact⟨hb,none,0,0,none,0,0,0,none,0,0,0,none,0,0,0,0,_,rfl, .inl ⟨h1,⟨rfl,rfl,rfl⟩,⟨rfl,rfl,rfl,rfl⟩,⟨rfl,rfl,rfl,rfl⟩,⟨rfl,rfl,rfl,rfl⟩,rfl, .inl e.symm⟩⟩
 ·refine⟨hb,none,0,0,none,0,0,0,none,0,0,0,none,0,0,0,0,_,rfl, .inl ⟨by rw [hE];decide,⟨rfl,rfl,rfl⟩,⟨rfl,rfl,rfl,rfl⟩,⟨rfl,rfl,rfl,rfl⟩,⟨rfl,rfl,rfl,rfl⟩,rfl,?_⟩⟩
  rcases h2 with h2|⟨h2,k,hk,h3⟩
  ·exact .inl (hE.trans h2.symm)
  ·exact .inr ⟨h2,hE,k,hk,aiK (mS h1).1 hk h3⟩
 ·exact⟨hb,_,_,_,_,_,_,_,_,_,_,_,_,_,_,_,_,_,rfl, .inr ⟨rfl,h2,b',h3 _ (aM.refl _ _),h4,h5,h6,h7⟩⟩
theorem aio (w:World):Calls Tryd.prog 26 #[dC] w fun x w'=>x = .returned (.bool true)/\ah w w':=by
 obtain⟨W0,hW0⟩:=bP (w.alloc (.cells cL 35))
 have hb0:ah w W0:=by rw [hW0];exact ag
 have k0:W0.heap[w.heap.size]?=some (.cells cL 35):=by rw [hW0];exact aj _ _ rfl
 obtain⟨x0,x1,x3,x5,x7⟩:W0.cell? ⟨w.heap.size,0,none⟩=some (.slice none 0 0)/\W0.cell? ⟨w.heap.size,1,none⟩=some (.slice none 0 0)/\W0.cell? ⟨w.heap.size,3,none⟩=some (.slice none 0 0)/\W0.cell? ⟨w.heap.size,5,none⟩=some (.slice none 0 0)/\W0.cell? ⟨w.heap.size,7,none⟩=some (.int .i64 0):=by simp [World.cell?,k0]
 go_enter Tryd.func26,Tryd.ntmps26
 go_upto_region 1 with (fail)
 rw [<-hW0]
 clear hW0 k0
 go_wp2
 go_ret
 exact⟨dP bj,ag⟩
theorem aim (g:Option Addr) (l p:Nat) (r:Int) (w:World):Calls Tryd.prog 25 #[.agg #[.slice g l p, .int .i64 r]] w fun x w'=>x = .returned (.bool (decide (200<(l:Int))))/\ah w w':=by
 obtain⟨W0,hW0⟩:=bP (w.alloc (.cells #[.slice g l p, .int .i64 r] 32))
 have hb0:ah w W0:=by rw [hW0];exact ag
 have k0:W0.heap[w.heap.size]?=some (.cells #[.slice g l p, .int .i64 r] 32):=by rw [hW0];exact aj _ _ rfl
 have x0:W0.cell? ⟨w.heap.size,0,none⟩=some (.slice g l p):=by simp [World.cell?,k0]
 go_enter Tryd.func25,Tryd.ntmps25
 go_upto_region 1 with (fail)
 rw [<-hW0]
 clear hW0 k0
 go_wp2
 go_ret
 exact⟨dP bj,ag⟩
theorem ah4 {v:Value} (h:bO w v b) (hst:∀s∈b.names,s.size<=140737488351232) (xB:s.size<=140737488351232) (hsz:bL w) :
  Calls Tryd.prog 6 #[v, .agg #[.string s, .int .i64 time, .int .i64 value]] w fun e w'=>e = .returned (.bool true)/\ah w w':=by
 have vr:=hdd fun w' (hb:ah w w')=>h.below hb
 have nN:=hdd fun w' (hb:ah w w')=>hsz.below hb
 have HST:=hdd (aL hst xB)
 obtain⟨sa,sc,g0,l0,p0,g1,l1,p1,g2,l2,p2,rfl,hn,jl,T0,T1,T2⟩:=h.open
 have Aw:=hdd (show l0=b.t0.nodes.length/\l1=b.t1.nodes.length/\l2=b.t2.nodes.length by
  have q:∀{g:Option Addr} {l p:Nat} {t:Tr},bM w (.agg #[.slice g l p, .int .i64 t.root]) t->l=t.nodes.length:=by
   rintro g l p t ⟨nv,hv,hnd⟩
   obtain⟨⟨ao,cap,rfl⟩,-⟩:=hnd.len
   injection hv with hv
   injection congrArg (fun a:Array Value=>a[0]!) hv
  exact⟨q (T0 w (aI _ _)),q (T1 w (aI _ _)),q (T2 w (aI _ _))⟩)
 obtain⟨W0,hW0⟩:=bP ((w.alloc (.cells (aG sa b.names.length sc g0 l0 p0 g1 l1 p1 g2 l2 p2 b) 35)).alloc (.cells #[.string s, .int .i64 time, .int .i64 value] 59))
 have hb0:ah w W0:=by rw [hW0];exact ag
 have hz0:W0.heap.size=w.heap.size+2:=by rw [hW0];simp
 have k0:W0.heap[w.heap.size]?=some (.cells (aG sa b.names.length sc g0 l0 p0 g1 l1 p1 g2 l2 p2 b) 35):=by rw [hW0,kW _ _ _ bj];exact aj _ _ rfl
 have k1:W0.heap[w.heap.size+1]?=some (.cells #[.string s, .int .i64 time, .int .i64 value] 59):=by rw [hW0];exact aj _ _ bj
 have HX:=hdd fun W (hb:ah W0 W)=>(by
  have e1:=(hb.block w.heap.size af).trans k0
  have e2:=(hb.block (w.heap.size+1) af).trans k1
  simp [World.cell?,e1,e2]:W.cell? ⟨w.heap.size,0,none⟩=some (.slice sa b.names.length sc)/\W.cell? ⟨w.heap.size,1,none⟩=some (.slice g0 l0 p0)/\W.cell? ⟨w.heap.size,2,none⟩=some (.int .i64 b.t0.root)/\W.cell? ⟨w.heap.size,3,none⟩=some (.slice g1 l1 p1)/\W.cell? ⟨w.heap.size,4,none⟩=some (.int .i64 b.t1.root)/\W.cell? ⟨w.heap.size,5,none⟩=some (.slice g2 l2 p2)/\W.cell? ⟨w.heap.size,6,none⟩=some (.int .i64 b.t2.root)/\W.cell? ⟨w.heap.size,7,none⟩=some (.int .i64 b.floor)/\W.cell? ⟨w.heap.size+1,0,none⟩=some (.string s)/\W.cell? ⟨w.heap.size+1,1,none⟩=some (.int .i64 time)/\W.cell? ⟨w.heap.size+1,2,none⟩=some (.int .i64 value))
 have HB:=hdd fun w' (hb:ah W0 w')=>(Below.trans' hb0 hb hb0.size:ah w w')
 obtain⟨x0,x1,x2,x3,x4,x5,x6,x7,y0,y1,y2⟩:=HX.out W0 (aI _ _)
 clear h hst xB hsz jl T0 T1 T2
 go_enter Tryd.func6,Tryd.ntmps6
 go_upto_region 1 with (fail)
 rw [<-hW0]
 clear hW0 k0 k1
 have Io:=hdd hb0
 go_upto_region 2 with (go_at_call 21;(with_reducible refine(aia (vr.out _ Io.out)).mono ?_);rintro e w1 ⟨hb1,ka,kc,m0,n0,o0,m1,n1,o1,m2,n2,o2,rfl,hk1⟩)
 obtain⟨W1,hW1⟩:=bP (w1.alloc (.cells #[.slice ka b.names.length kc, .slice m0 n0 o0, .int .i64 b.t0.root, .slice m1 n1 o1, .int .i64 b.t1.root, .slice m2 n2 o2, .int .i64 b.t2.root, .int .i64 b.floor] 35))
 have hb2:ah w1 W1:=by rw [hW1];exact ag
 have hz2:W1.heap.size=w1.heap.size+1:=by rw [hW1];simp
 have k2:W1.heap[w1.heap.size]?=some (.cells #[.slice ka b.names.length kc, .slice m0 n0 o0, .int .i64 b.t0.root, .slice m1 n1 o1, .int .i64 b.t1.root, .slice m2 n2 o2, .int .i64 b.t2.root, .int .i64 b.floor] 35):=by rw [hW1];exact aj _ _ rfl
 have ajh:=hdd (Below.trans' hb1 hb2 hb1.size:ah W0 W1)
 have Db:=hdd fun w' (hb:ah W1 w')=>((hk1.below hb2).below hb)
 have HQ:=hdd fun w' (hb:ah W1 w')=>(by
  have b0:w'.heap[w1.heap.size]?=_:=(hb.block _ af).trans k2
  simp [World.cell?,b0] :
  w'.cell? ⟨w1.heap.size,0,none⟩=some (.slice ka b.names.length kc)/\w'.cell? ⟨w1.heap.size,1,none⟩=some (.slice m0 n0 o0)/\w'.cell? ⟨w1.heap.size,2,none⟩=some (.int .i64 b.t0.root)/\w'.cell? ⟨w1.heap.size,3,none⟩=some (.slice m1 n1 o1)/\w'.cell? ⟨w1.heap.size,4,none⟩=some (.int .i64 b.t1.root)/\w'.cell? ⟨w1.heap.size,5,none⟩=some (.slice m2 n2 o2)/\w'.cell? ⟨w1.heap.size,6,none⟩=some (.int .i64 b.t2.root)/\w'.cell? ⟨w1.heap.size,7,none⟩=some (.int .i64 b.floor))
 rw [<-hW1]
 clear hW1 k2 hb0 hz0 hb1 hb2 hz2 hk1 x0 x1 x2 x3 x4 x5 x6 x7 y0 y1 y2
 obtain⟨-,-,-,-,-,-,-,-,y0,y1,y2⟩:=HX.out _ ajh.out
 obtain⟨z0,z1,z2,z3,z4,z5,z6,z7⟩:=HQ.out _ (aI _ _)
 have HAD:=hdd (ah8 (time:=time) (value:=value) (Db.out _ (aI _ _)) HST.out.1 HST.out.2 (nN.out _ (HB.out _ ajh.out)))
 go_upto_region 3 with (go_at_call 22;(with_reducible refine HAD.out.mono ?_);rintro e w2 ⟨hb3,ra,rn,rc,h0,a0,b0,q0,h1,a1,b1,q1,h2,a2,b2,q2,fl,E2,rfl,hform⟩)
 have Vt:=hdd hform
 obtain⟨W2,hW2⟩:=bP (w2.alloc (.cells #[.slice ra rn rc, .slice h0 a0 b0, .int .i64 q0, .slice h1 a1 b1, .int .i64 q1, .slice h2 a2 b2, .int .i64 q2, .int .i64 fl] 35))
 have hb4:ah w2 W2:=by rw [hW2];exact ag
 have YK:W2.heap.size=w2.heap.size+1:=by rw [hW2];simp
 have k4:W2.heap[w2.heap.size]?=some (.cells #[.slice ra rn rc, .slice h0 a0 b0, .int .i64 q0, .slice h1 a1 b1, .int .i64 q1, .slice h2 a2 b2, .int .i64 q2, .int .i64 fl] 35):=by rw [hW2];exact aj _ _ rfl
 have ajI:=hdd (Below.trans' hb3 hb4 hb3.size:ah W1 W2)
 have ai8:=hdd (Below.trans' ajh.out ajI.out ajh.out.size:ah W0 W2)
 have wV:=hdd hb4
 have HR:=hdd fun w' (hb:ah W2 w')=>(by
  have b0:w'.heap[w2.heap.size]?=_:=(hb.block _ af).trans k4
  simp [World.cell?,b0] :
  w'.cell? ⟨w2.heap.size,0,none⟩=some (.slice ra rn rc)/\w'.cell? ⟨w2.heap.size,1,none⟩=some (.slice h0 a0 b0)/\w'.cell? ⟨w2.heap.size,2,none⟩=some (.int .i64 q0)/\w'.cell? ⟨w2.heap.size,3,none⟩=some (.slice h1 a1 b1)/\w'.cell? ⟨w2.heap.size,4,none⟩=some (.int .i64 q1)/\w'.cell? ⟨w2.heap.size,5,none⟩=some (.slice h2 a2 b2)/\w'.cell? ⟨w2.heap.size,6,none⟩=some (.int .i64 q2)/\w'.cell? ⟨w2.heap.size,7,none⟩=some (.int .i64 fl))
 rw [<-hW2]
 clear hW2 k4 hb3 hb4 YK hform y0 y1 y2 z0 z1 z2 z3 z4 z5 z6 z7
 obtain⟨x0,x1,x2,x3,x4,x5,x6,x7,y0,y1,y2⟩:=HX.out _ ai8.out
 have HAO:=hdd (aiv (time:=time) (value:=value) (vr.out _ (HB.out _ ai8.out)) HST.out.1 HST.out.2)
 go_upto_region 4 with (go_at_call 23;(with_reducible refine HAO.out.mono ?_);rintro e w3 ⟨cu,no,nn,nc,lo,ln,lc,rfl,hadd⟩)
 have UJ:=hdd hadd
 have ajH:=hdd cu
 have ajg:=hdd (Below.trans' ai8.out cu ai8.out.size:ah W0 w3)
 have akt:=hdd (Below.trans' ajI.out cu ajI.out.size:ah W1 w3)
 clear cu hadd x0 x1 x2 x3 x4 x5 x6 x7 y0 y1 y2
 obtain⟨x0,x1,x2,x3,x4,x5,x6,x7,y0,y1,y2⟩:=HX.out _ ajg.out
 obtain⟨z0,z1,z2,z3,z4,z5,z6,z7⟩:=HQ.out _ akt.out
 have Da:=hdd (ahT (Db.out _ akt.out) (vr.out _ (HB.out _ ajg.out)))
 obtain⟨F,hF⟩:=bt (ny b s time value)
 rw [hF]
 have HF:=hdd hF
 clear hF
 go_upto_region 6 with (go_at_call 24;(with_reducible refine Da.out.mono ?_);rintro e w4 ⟨rfl,jf⟩)
 have adH:=hdd jf
 have ahY:=hdd (Below.trans' ajH.out jf ajH.out.size:ah W2 w4)
 have aeG:=hdd (Below.trans' ajg.out jf ajg.out.size:ah W0 w4)
 have aja:=HB.out _ aeG.out
 clear jf x0 x1 x2 x3 x4 x5 x6 x7 y0 y1 y2 z0 z1 z2 z3 z4 z5 z6 z7
 obtain⟨x0,x1,x2,x3,x4,x5,x6,x7,-,-,-⟩:=HX.out _ aeG.out
 obtain⟨y0,y1,y2,y3,y4,y5,y6,y7⟩:=HR.out _ ahY.out
 rcases Vt.out with ⟨f1,⟨rfl,rfl,rfl⟩,⟨rfl,rfl,rfl,rfl⟩,⟨rfl,rfl,rfl,rfl⟩,⟨rfl,rfl,rfl,rfl⟩,rfl,f2⟩|⟨rfl,f1,b',f2,f3,f4,f5,f6⟩
 ·have HK:=hdd fun w=>aio w
  have Qw:=hdd fun g l p r w=>aim g l p r w
  rcases f2 with f2|⟨f2,rfl,k,hk,f3⟩
  ·obtain rfl:E2=F:=f2.trans HF.out
   have d1:(E2 != 0)=true:=by simp [f1]
   have d2:(E2 == E2)=true:=bj
   clear f2
   go_wp2_with (go_at_call 26;(with_reducible refine(HK.out _).mono ?_);rintro e w5 ⟨rfl,qE⟩)
   go_ret
   exact⟨dP bj,Below.trans' aja qE aja.size⟩
  ·obtain rfl:F=0:=HF.out.symm.trans f2
   have hlen:200<l0\/200<l1\/200<l2:=by
    obtain⟨q0,q1,q2⟩:=Aw.out
    obtain rfl|rfl|rfl:k=0\/k=1\/k=2:=af
    ·exact .inl (by rw [q0];exact f3)
    ·exact .inr (.inl (by rw [q1];exact f3))
    ·exact .inr (.inr (by rw [q2];exact f3))
   clear f2 f3 f1
   obtain⟨c0,hc0⟩:=bt (decide (200<(l0:Int)))
   obtain⟨c1,hc1⟩:=bt (decide (200<(l1:Int)))
   obtain⟨c2,hc2⟩:=bt (decide (200<(l2:Int)))
   have HL0:=hdd fun w=>(hc0▸Qw.out g0 l0 p0 b.t0.root w)
   have Qy:=hdd fun w=>(hc1▸Qw.out g1 l1 p1 b.t1.root w)
   have HL2:=hdd fun w=>(hc2▸Qw.out g2 l2 p2 b.t2.root w)
   have hor:c0=true\/(c0=false/\c1=true)\/(c0=false/\c1=false/\c2=true):=by
    rw [<-hc0,<-hc1,<-hc2]
    simp only [yi,decide_eq_false_iff_not]
    omega
   clear hc0 hc1 hc2 hlen
   rcases hor with rfl|⟨rfl,rfl⟩|⟨rfl,rfl,rfl⟩
   ·go_wp2_with (first|(go_at_call 25;(with_reducible refine(HL0.out w4).mono ?_);rintro e w5 ⟨rfl,xc⟩;have vv:=hdd (Below.trans' aeG.out xc aeG.out.size);have yo:=hdd (Below.trans' ahY.out xc ahY.out.size);clear xc x0 x1 x2 x3 x4 x5 x6 x7 y0 y1 y2 y3 y4 y5 y6 y7;obtain⟨x0,x1,x2,x3,x4,x5,x6,x7,-,-,-⟩:=HX.out _ vv.out;obtain⟨y0,y1,y2,y3,y4,y5,y6,y7⟩:=HR.out _ yo.out)|(go_at_call 26;(with_reducible refine(HK.out _).mono ?_);rintro e w9 ⟨rfl,pS⟩))
    go_ret
    have hq:=HB.out _ vv.out
    exact⟨dP bj,Below.trans' hq pS hq.size⟩
   ·go_wp2_with (first|(go_at_call 25;(with_reducible refine(HL0.out w4).mono ?_);rintro e w5 ⟨rfl,xc⟩;have vv:=hdd (Below.trans' aeG.out xc aeG.out.size);have yo:=hdd (Below.trans' ahY.out xc ahY.out.size);clear xc x0 x1 x2 x3 x4 x5 x6 x7 y0 y1 y2 y3 y4 y5 y6 y7;obtain⟨x0,x1,x2,x3,x4,x5,x6,x7,-,-,-⟩:=HX.out _ vv.out;obtain⟨y0,y1,y2,y3,y4,y5,y6,y7⟩:=HR.out _ yo.out)|(go_at_call 25;(with_reducible refine(Qy.out w5).mono ?_);rintro e w6 ⟨rfl,kf⟩;have kz:=hdd (Below.trans' vv.out kf vv.out.size);have Ac:=hdd (Below.trans' yo.out kf yo.out.size);clear kf x0 x1 x2 x3 x4 x5 x6 x7 y0 y1 y2 y3 y4 y5 y6 y7;obtain⟨x0,x1,x2,x3,x4,x5,x6,x7,-,-,-⟩:=HX.out _ kz.out;obtain⟨y0,y1,y2,y3,y4,y5,y6,y7⟩:=HR.out _ Ac.out)|(go_at_call 26;(with_reducible refine(HK.out _).mono ?_);rintro e w9 ⟨rfl,pS⟩))
    go_ret
    have hq:=HB.out _ kz.out
    exact⟨dP bj,Below.trans' hq pS hq.size⟩
   ·go_wp2_with (first|(go_at_call 25;(with_reducible refine(HL0.out w4).mono ?_);rintro e w5 ⟨rfl,xc⟩;have vv:=hdd (Below.trans' aeG.out xc aeG.out.size);have yo:=hdd (Below.trans' ahY.out xc ahY.out.size);clear xc x0 x1 x2 x3 x4 x5 x6 x7 y0 y1 y2 y3 y4 y5 y6 y7;obtain⟨x0,x1,x2,x3,x4,x5,x6,x7,-,-,-⟩:=HX.out _ vv.out;obtain⟨y0,y1,y2,y3,y4,y5,y6,y7⟩:=HR.out _ yo.out)|(go_at_call 25;(with_reducible refine(Qy.out w5).mono ?_);rintro e w6 ⟨rfl,kf⟩;have kz:=hdd (Below.trans' vv.out kf vv.out.size);have Ac:=hdd (Below.trans' yo.out kf yo.out.size);clear kf x0 x1 x2 x3 x4 x5 x6 x7 y0 y1 y2 y3 y4 y5 y6 y7;obtain⟨x0,x1,x2,x3,x4,x5,x6,x7,-,-,-⟩:=HX.out _ kz.out;obtain⟨y0,y1,y2,y3,y4,y5,y6,y7⟩:=HR.out _ Ac.out)|(go_at_call 25;(with_reducible refine(HL2.out w6).mono ?_);rintro e w7 ⟨rfl,hc7⟩;have HC7:=hdd (Below.trans' kz.out hc7 kz.out.size);have HD7:=hdd (Below.trans' Ac.out hc7 Ac.out.size);clear hc7 x0 x1 x2 x3 x4 x5 x6 x7 y0 y1 y2 y3 y4 y5 y6 y7;obtain⟨x0,x1,x2,x3,x4,x5,x6,x7,-,-,-⟩:=HX.out _ HC7.out;obtain⟨y0,y1,y2,y3,y4,y5,y6,y7⟩:=HR.out _ HD7.out)|(go_at_call 26;(with_reducible refine(HK.out _).mono ?_);rintro e w9 ⟨rfl,pS⟩))
    go_ret
    have hq:=HB.out _ HC7.out
    exact⟨dP bj,Below.trans' hq pS hq.size⟩
 ·obtain rfl:F=0:=HF.out.symm.trans f1
  have HIS:=hdd (aiE (fl:=b.floor) (((f2.below wV.out).below ajH.out).below adH.out) (fun x hx=>by
   rw [f3]at hx
   unfold bC at hx
   split at hx
   ·rcases kJ.1 hx with hx|hx
    ·exact HST.out.1 x hx
    ·rw [mR.1 hx];exact HST.out.2
   ·exact HST.out.1 x hx) ((UJ.out f1).1.below adH.out aH) ((UJ.out f1).2.below adH.out aH))
  have heq:decide (Ff b s time value=Ff b s time value)=true:=bj
  rw [Kz f5 f4 f3 f6,heq]at HIS
  clear f1 f2 f3 f4 f5 f6 heq
  go_wp2_with (go_at_call 27;(with_reducible refine HIS.out.mono ?_);rintro e w5 ⟨rfl,qE⟩)
  go_ret
  exact⟨dP bj,Below.trans' aja qE aja.size⟩
end Go.Proofs.YtmljjfhgciaceaaDoor
