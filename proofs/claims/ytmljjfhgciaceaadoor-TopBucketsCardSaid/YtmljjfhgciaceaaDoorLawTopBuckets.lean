import Derived.Test.YtmljjfhgciaceaaDoorHd
import Derived.Test.YtmljjfhgciaceaaDoorTopZ
import Derived.Test.YtmljjfhgciaceaaDoorTopV
import Derived.Test.YtmljjfhgciaceaaDoorTopY
import Derived.Test.YtmljjfhgciaceaaDoorSameA
import Derived.Test.YtmljjfhgciaceaaDoorSO
namespace Go.Proofs.YtmljjfhgciaceaaDoor
open Go.RowKit
set_option maxRecDepth 100000
set_option maxHeartbeats 4000000
variable {s:ByteArray} {n:Int} {bo:Nat} {R:au} {w w5 wr:World}
theorem NC {a z:Int}:Calls Tryd.prog 16 #[.string s, .int .i64 a, .int .i64 z] w fun e w'=>e = .returned (.agg #[.int .i64 3, .string s, .int .i64 a, .int .i64 z, .int .i64 0, .int .i64 0])/\ah w w':=by
 obtain⟨W0,hW0⟩:=bQ (w.alloc (.cells #[.int .i64 0, .string ⟨#[]⟩, .int .i64 0, .int .i64 0, .int .i64 0, .int .i64 0] 26))
 have hb0:ah w W0:=by rw [hW0];exact ag
 have k1:W0.heap[w.heap.size]?=some (.cells #[.int .i64 0, .string ⟨#[]⟩, .int .i64 0, .int .i64 0, .int .i64 0, .int .i64 0] 26):=by rw [hW0];exact aq _ _ rfl
 obtain⟨z0,z1,z2,z3,z4,z5,zf⟩:W0.cell? ⟨w.heap.size,0,none⟩=some (.int .i64 0)/\W0.cell? ⟨w.heap.size,1,none⟩=some (.string ⟨#[]⟩)/\W0.cell? ⟨w.heap.size,2,none⟩=some (.int .i64 0)/\W0.cell? ⟨w.heap.size,3,none⟩=some (.int .i64 0)/\W0.cell? ⟨w.heap.size,4,none⟩=some (.int .i64 0)/\W0.cell? ⟨w.heap.size,5,none⟩=some (.int .i64 0)/\∀o,W0.frozen? ⟨w.heap.size,o,none⟩=false:=by simp [World.cell?,World.frozen?,k1]
 have HE:=hdd (eZ hb0 aI (.int .i64 3) (.string s) (.int .i64 a) (.int .i64 z) (.int .i64 0) (.int .i64 0))
 go_enter Tryd.func16,Tryd.ntmps16
 go_upto_region 1 with (fail)
 rw [<-hW0]
 clear hW0 hb0 k1
 go_wp2_with fail
 exact bodyPost_ret (v:= .agg #[.int .i64 3, .string s, .int .i64 a, .int .i64 z, .int .i64 0, .int .i64 0]) (by simp [results,Tryd.results16,go_sem, *]) rfl ⟨rfl,HE.out⟩
theorem Lc:Calls Tryd.prog 19 #[.int .i64 n] w fun e w'=>e = .returned (.agg #[.int .i64 2, .string ⟨#[109,101,109]⟩, .int .i64 0, .int .i64 1048575, .int .i64 n, .int .i64 0])/\ah w w':=by
 obtain⟨W0,hW0⟩:=bQ (w.alloc (.cells #[.int .i64 0, .string ⟨#[]⟩, .int .i64 0, .int .i64 0, .int .i64 0, .int .i64 0] 26))
 have hb0:ah w W0:=by rw [hW0];exact ag
 have k1:W0.heap[w.heap.size]?=some (.cells #[.int .i64 0, .string ⟨#[]⟩, .int .i64 0, .int .i64 0, .int .i64 0, .int .i64 0] 26):=by rw [hW0];exact aq _ _ rfl
 obtain⟨z0,z1,z2,z3,z4,z5,zf⟩:W0.cell? ⟨w.heap.size,0,none⟩=some (.int .i64 0)/\W0.cell? ⟨w.heap.size,1,none⟩=some (.string ⟨#[]⟩)/\W0.cell? ⟨w.heap.size,2,none⟩=some (.int .i64 0)/\W0.cell? ⟨w.heap.size,3,none⟩=some (.int .i64 0)/\W0.cell? ⟨w.heap.size,4,none⟩=some (.int .i64 0)/\W0.cell? ⟨w.heap.size,5,none⟩=some (.int .i64 0)/\∀o,W0.frozen? ⟨w.heap.size,o,none⟩=false:=by simp [World.cell?,World.frozen?,k1]
 have HE:=hdd (eZ hb0 aI (.int .i64 2) (.string ⟨#[109,101,109]⟩) (.int .i64 0) (.int .i64 1048575) (.int .i64 n) (.int .i64 0))
 go_enter Tryd.func19,Tryd.ntmps19
 go_upto_region 1 with (fail)
 rw [<-hW0]
 clear hW0 hb0 k1
 go_wp2_with fail
 exact bodyPost_ret (v:= .agg #[.int .i64 2, .string ⟨#[109,101,109]⟩, .int .i64 0, .int .i64 1048575, .int .i64 n, .int .i64 0]) (by simp [results,Tryd.results19,go_sem, *]) rfl ⟨rfl,HE.out⟩
def RL (w5 wr:World) (bo:Nat) (R:au):Prop:=ah w5 wr/\w5.heap.size<=bo/\bo<wr.heap.size/\rH wr bo R
theorem RL.later {w':World} (h:RL w5 wr bo R) (hb:ah wr w'):RL w5 w' bo R:=⟨Below.trans' h.1 hb h.1.size,h.2.1,mE h.2.2.1 hb.size,h.2.2.2.later hb⟩
theorem RL.set {S:au} (h:RL w5 wr bo R):RL w5 ((((((wr.setCell ⟨bo,0,none⟩ (.int .i64 S.c)).setCell ⟨bo,1,none⟩ (.int .i64 S.s)).setCell ⟨bo,2,none⟩ (.int .i64 S.mi)).setCell ⟨bo,3,none⟩ (.int .i64 S.ma)).setCell ⟨bo,4,none⟩ (.int .i64 S.t)).setCell ⟨bo,5,none⟩ (.int .i64 S.l)) bo S:=by
 have hlo:=h.2.1
 exact⟨(((((h.1.setCell hlo _).setCell hlo _).setCell hlo _).setCell hlo _).setCell hlo _).setCell hlo _,hlo,by simp only [ay];exact h.2.2.1,⟨C8 h.2.2.2.box⟩⟩
theorem TX {l:List Ac} {t:Int} {R:Nat->List aA} {T:au} {A:An} {qs:List qx} (h:Bkt l s t R T A) (hq:qs.map qx.an=lZ St.zero (l++EN s t)) {j:Nat} (hj:j<4) (hl:l.length+1+j<qs.length) :
  qs[l.length+1+j].an=if j<3 then⟨0,au.zero,R j⟩ else⟨0,T,[]⟩:=by
 have h1:(qs.map qx.an)[l.length+1+j]?=some qs[l.length+1+j].an:=by simp [hl]
 rw [hq,h.run,List.getElem?_append_right (by rw [ng];omega),ng,show l.length+1+j-l.length=j+1 by omega]at h1
 obtain rfl|rfl|rfl|rfl:j=0\/j=1\/j=2\/j=3:=af
 all_goals (simp at h1;simp [<-h1])
def BU:ByteArray:=⟨#[109,101,109]⟩
theorem Pz:BU∈iH:=by simp [iH,BU]
theorem yA {v:Value} {xs:List Rw} (h:I5 w v xs) (hx:∀a∈xs,a.ok) (hn:i64 n) (hsz:bS w) :
  Calls Tryd.prog 4 #[v, .int .i64 n] w fun e w'=>e = .returned (.bool true)/\ah w w':=by
 obtain⟨ao,cap,rfl⟩:=h.isSlice
 have HA:=hdd (show Calls Tryd.prog 12 #[.slice ao xs.length cap, .int .i64 40] w _ from NK (most:=40) h hx aW)
 have sy:=hdd hsz
 have RF:=hdd (NJ (xs:=xs) (most:=40))
 have Zj:=hdd (Ho (xs:=xs) (most:=40))
 have HGA:=hdd (Hp (xs:=xs) (most:=40))
 have HP:=hdd fun W=>Dc (w:=W) (m:=900) hn aW aW
 have hpr:=cX (n:=n) (m:=900) aW
 obtain⟨J,hJ⟩:=bw (picked n 900)
 rw [hJ]at HP hpr
 have hw1:IntKind.i64.wrap (11000+J)=11000+J:=IntWalk.i64_in _ af
 have HJR:=hdd hpr
 have HQ:=hdd fun n W=>Lc (n:=n) (w:=W)
 have HK:=hdd fun s a z W=>NC (s:=s) (a:=a) (z:=z) (w:=W)
 clear h hx hsz hn hJ hpr
 go_enter Tryd.func4,Tryd.ntmps4
 go_upto_region 3 with (first
  |(go_at_call 12;(with_reducible refine HA.out.mono ?_);rintro e w1 ⟨hb1,oa,oc,rfl,hown⟩;have CE:=hdd hb1;have K3:=hdd hown;clear hown hb1;have WJ:=RF.out;have HC:=hdd (aJ w1.heap.size w1))
  |(go_at_call 13;(with_reducible refine(HP.out _).mono ?_);rintro e w2 ⟨rfl,hb⟩;have HC:=hdd (Below.trans' HC.out hb HC.out.size);clear hb)
  |(go_at_call 19;(with_reducible refine(HQ.out _ _).mono ?_);rintro e w2 ⟨rfl,hb⟩;have HC:=hdd (Below.trans' HC.out hb HC.out.size);clear hb)
  |(go_at_call 16;(with_reducible refine(HK.out _ _ _ _).mono ?_);rintro e w2 ⟨rfl,hb⟩;have HC:=hdd (Below.trans' HC.out hb HC.out.size);clear hb)
  |(at_builtin;refine sO rfl (.tmp 18) (.tmp 30) rfl w.heap.size w2.heap.size _ _ (jT xs 40) (EN BU (11000+J)) rfl rfl ((K3.out.below HC.out aI).alloc _) (cp.lit (ys:=EN BU (11000+J)) (aq _ _ rfl) aI (show 5<=maxLen by decide) rfl) (by have:(EN BU (11000+J)).length=5:=rfl;omega) (by have:=HC.out.size;have:=CE.out.size;simp;omega) ?_;intro v4 w4 BP hg4;replace hg4:(w2.alloc _).grownBy w4 (Value.slice oa (jT xs 40).length oc).ownBlock:=hg4))
 obtain⟨L,hL⟩:=bw (jT xs 40)
 rw [hL]at BP RF Zj HGA hg4 WJ K3
 obtain⟨D,hD⟩:=bw (L++EN BU (11000+J))
 rw [hD]at BP
 have HD:=hdd hD
 have MG:D.length=L.length+5:=by rw [<-hD,eP];rfl
 have Aa:=hdd (show ah w w4 from Below.grown ((Below.trans' CE.out HC.out CE.out.size).alloc (gT CE.out.size HC.out.size) _) hg4 (by have:=CE.out.size;have:=HC.out.size;simp;omega) (fun j hj=>(K3.out.lt j hj).1))
 have tV:=hdd (Fs (BP.at af) (fun a ha=>by
  rw [<-hD]at ha
  rcases kI.1 ha with ha|ha
  ·exact Zj.out a ha
  ·simp only [EN,fc,List.not_mem_nil,or_false]at ha
   rcases ha with rfl|rfl|rfl|rfl|rfl <;> (show BU.size<=_;decide)) af (sy.out.below Aa.out))
 obtain⟨ra,ca,rfl⟩:=BP.isSlice
 have Qw:=hdd MG
 clear hL hD BP hg4 hw1 HA WJ MG
 go_upto_region 4 with (go_at_call 14;(with_reducible refine tV.out.mono ?_);rintro e w5 ⟨cx,oo,UN,qs,b,sa,sc,g0,l0,p0,g1,l1,p1,g2,l2,p2,rfl,YP,hown,hrows,-,-,hok⟩)
 have Wt:(iC St.zero (L++[⟨1,BU,11000+J,0,0,0⟩])).m.Ok (L.length+1):=by
  have h1:=hok (L.length+1) (by rw [Qw.out];omega)
  have e:D.take (L.length+1)=L++[⟨1,BU,11000+J,0,0,0⟩]:=by
   rw [<-HD.out,List.take_append,kJ af,show L.length+1-L.length=1 by omega];rfl
  rw [e]at h1;exact h1
 obtain⟨R,T,A,hbk⟩:=EI HGA.out Pz (t:=11000+J) (by have:=HJR.out;omega) (by have:=HJR.out;omega) (N:=L.length+1) (by have:=RF.out;omega) Wt
 have hq5:qs.length=L.length+5:=by
  have:=congrArg List.length YP
  rw [nA,ng]at this
  rw [this];exact Qw.out
 obtain⟨a5,r5⟩:=Ua YP hown hrows hok (by have:=Qw.out;have:=RF.out;omega) (W:=w5) (aJ _ _)
 have Zo:=hdd fun(j:Nat) (hj:j<4) (hl:L.length+1+j<qs.length)=>TX hbk (by rw [YP,<-HD.out]) hj hl
 obtain⟨K,hK⟩:=bw (L.length+1)
 rw [hK]at Zo
 have U1:qs.length=K+4:=af
 have ag6:K<=41:=by have:=RF.out;omega
 have hwk:IntKind.i64.wrap ((qs.length:Int)-4)=(K:Int):=by
  rw [show (qs.length:Int)-4=(K:Int) by omega]
  exact IntWalk.i64_in _ af
 have hw3:IntKind.i64.wrap ((K:Int)+3)=(K:Int)+3:=IntWalk.i64_in _ af
 have KI:=hdd r5
 have Fi:=hdd hbk
 have CO:=hdd (Below.trans' Aa.out cx Aa.out.size)
 obtain⟨_,_,hv,-,-,-,-,e5⟩:=a5
 injection hv with hv1 _ hv3
 subst hv1 hv3
 obtain⟨eb,bZ,rfl,ebb,ec⟩:=e5 af
 have UD:=hdd ec
 have HQK:=hdd U1
 clear ec e5 r5 hbk Wt YP hown hrows hok cx hq5 hK U1
 obtain⟨W8,mf⟩:=bQ (w5.alloc (.cells (aH sa b.names.length sc g0 l0 p0 g1 l1 p1 g2 l2 p2 b) 35))
 have UF:=hdd (show ah w5 W8 by rw [mf];exact ag)
 rw [<-mf]
 clear mf
 go_upto_region 8 with (fail)
 go_loopg [11] 3 (fun g iv wr=>∃j:Nat,j<=3/\g=3-j/\iv = .int .i64 ((K+j:Nat):Int)/\ah w5 wr)
 case atStart=>exact⟨0,iN _,rfl,rfl,UF.out⟩
 case round=>
  obtain⟨j,hj,rfl,rfl,hb⟩:=hrel
  obtain⟨i,hi⟩:=bw (K+j)
  rw [hi]
  by_cases hlt:j<3
  ·have U1:=HQK.out
   have Cf:(i:Int)<(K:Int)+3:=af
   have IJ:i<qs.length:=af
   have afV:(i:Int)<(qs.length:Int):=af
   have hlk:K+3<qs.length:=af
   have afW:(K:Int)+3<(qs.length:Int):=af
   have YQ:=Zo.out j af af
   have hqz:=Zo.out 3 af af
   simp only [hi]at YQ
   rw [ar hlt]at YQ
   rw [ai af]at hqz
   have Vw:=hdd fun W (h:ah w5 W)=>wQ (w:=W) (b:=eb) (off:=bZ) (xs:=qs) (fun i x hi j u hu=>(h.cell (p:=⟨eb,_,none⟩) ebb).trans (UD.out i x hi j u hu)) IJ
   have Zg:=hdd fun W (h:ah w5 W)=>wQ (w:=W) (b:=eb) (off:=bZ) (xs:=qs) (fun i x hi j u hu=>(h.cell (p:=⟨eb,_,none⟩) ebb).trans (UD.out i x hi j u hu)) hlk
   have hent:=KI.out qs[i] (fO IJ)
   obtain⟨q,hq⟩:=bw (qs[i])
   obtain⟨z,hz⟩:=bw (qs[K+3])
   rw [hq]at YQ Vw hent
   rw [hz]at hqz Zg
   obtain⟨an,so,sn,sp⟩:=q
   obtain⟨an',so',sn',sp'⟩:=z
   obtain rfl:an=⟨0,au.zero,R j⟩:=YQ
   obtain rfl:an'=⟨0,T,[]⟩:=hqz
   replace hent:eQ w5 (.slice so sn sp) (R j):=hent
   obtain⟨_,_,hv,-,-,h56,-,h5⟩:=hent
   injection hv with hv1 hv2 hv3
   subst hv1 hv2 hv3
   have Zz:=hdd (Fi.out.bJ j hlt)
   have qh:=hdd (Fi.out.all j hlt)
   obtain⟨S,hS⟩:=bw (R j)
   simp only [hS]at h5 h56 Zz qh Vw
   have H5:=hdd h5
   have kS:=fun w'=>rV (ab:=eb) (aY:=bZ) (n:=qs.length) (cap:=UN) (show (i:Int)=((i:Nat):Int) by rfl) IJ w'
   have kT:=fun w'=>rV (ab:=eb) (aY:=bZ) (n:=qs.length) (cap:=UN) (show (K:Int)+3=((K+3:Nat):Int) by omega) hlk w'
   have HI:=hdd hi
   have HJ3:=hdd hlt
   clear hq hz h5 hS hi hlt hj U1
   go_upto_region 11 with (fail)
   obtain⟨Wa,Tt⟩:=bQ (wr.alloc (.cells #[.int .i64 0, .int .i64 0, .int .i64 0, .int .i64 0, .int .i64 0, .int .i64 0] 42))
   have ku:ah wr Wa:=by rw [Tt];exact ag
   have Oj:=hdd (show RL w5 Wa wr.heap.size au.zero from ⟨Below.trans' hb ku hb.size,hb.size,by rw [Tt];simp,by rw [Tt];exact rH.new _ au.zero⟩)
   obtain⟨c0,c1,c2,c3,c4,c5,c6,c7⟩:=Vw.out _ Oj.out.1
   obtain⟨bo,Bf⟩:=bw (wr.heap.size)
   rw [Bf]at Oj
   rw [<-Tt,Bf]
   clear Tt ku Bf hb
   go_upto_region 12 with (fail)
   clear c0 c1 c2 c3 c4 c5 c6 c7 kS
   go_loopg [57] S.length (fun g iv wr=>∃c:Nat,c<=S.length/\g=S.length-c/\iv = .int .i64 c/\Hid (RL w5 wr bo (aN (S.take c))))
   case atStart=>exact⟨0,iN _,rfl,rfl,Oj⟩
   case round=>
    obtain⟨c,hc,rfl,rfl,HR⟩:=hrel
    clear Oj
    by_cases hlt:c<S.length
    ·have Cf:(c:Int)<(S.length:Int):=af
     obtain⟨rb,ZV,rfl,rbb,rc⟩:=H5.out af
     obtain⟨c0,c1,c2,c3,c4,c5,c6⟩:=bR HR.out.1 rbb rc hlt
     have OV:=hdd (Jq Zz.out (by rw [qh.out];exact Fi.out.few) hlt)
     obtain⟨x,hx⟩:=bw (S[c])
     obtain⟨P,hP⟩:=bw (aN (S.take c))
     obtain⟨J',hJ'⟩:=bw (aN (S.take (c+1)))
     rw [hx]at c0 c1 c2 c3 c4 c5 c6 OV
     rw [hP]at OV HR
     rw [hJ']at OV
     have HJ':=hdd hJ'
     have aaX:=fun w'=>Mk (ab:=rb) (aY:=ZV) (n:=S.length) (cap:=sp) (show (c:Int)=((c:Nat):Int) by rfl) hlt w'
     clear rc hx hP hJ'
     go_upto_region 14 with (fail)
     obtain⟨W3,hW3⟩:=bQ (wr.alloc (.cells #[.int .i64 x.key, .int .i64 x.is.c, .int .i64 x.is.s, .int .i64 x.is.mi, .int .i64 x.is.ma, .int .i64 x.is.t, .int .i64 x.is.l] 52))
     have hb3:ah wr W3:=by rw [hW3];exact ag
     have k3:W3.heap[wr.heap.size]?=some (.cells #[.int .i64 x.key, .int .i64 x.is.c, .int .i64 x.is.s, .int .i64 x.is.mi, .int .i64 x.is.ma, .int .i64 x.is.t, .int .i64 x.is.l] 52):=by rw [hW3];exact aq _ _ rfl
     obtain⟨x1,x2,x3,x4,x5,x6⟩:W3.cell? ⟨wr.heap.size,1,none⟩=some (.int .i64 x.is.c)/\W3.cell? ⟨wr.heap.size,2,none⟩=some (.int .i64 x.is.s)/\W3.cell? ⟨wr.heap.size,3,none⟩=some (.int .i64 x.is.mi)/\W3.cell? ⟨wr.heap.size,4,none⟩=some (.int .i64 x.is.ma)/\W3.cell? ⟨wr.heap.size,5,none⟩=some (.int .i64 x.is.t)/\W3.cell? ⟨wr.heap.size,6,none⟩=some (.int .i64 x.is.l):=by simp [World.cell?,k3]
     have wO:=hdd (HR.out.later hb3)
     have HM:=hdd (show Calls Tryd.prog 18 #[.agg #[.int .i64 P.c, .int .i64 P.s, .int .i64 P.mi, .int .i64 P.ma, .int .i64 P.t, .int .i64 P.l], .agg #[.int .i64 x.is.c, .int .i64 x.is.s, .int .i64 x.is.mi, .int .i64 x.is.ma, .int .i64 x.is.t, .int .i64 x.is.l]] W3 fun e w'=>e = .returned (.tuple #[.agg #[.int .i64 J'.c, .int .i64 J'.s, .int .i64 J'.mi, .int .i64 J'.ma, .int .i64 J'.t, .int .i64 J'.l], .int .i64 0])/\ah W3 w' by
      have:=ja P x.is W3
      rw [OV.out]at this
      exact this)
     obtain⟨z0,z1,z2,z3,z4,z5⟩:=wO.out.2.2.2.cells
     rw [<-hW3]
     clear hW3 hb3 k3 c0 c1 c2 c3 c4 c5 c6 aaX HR OV
     go_upto_region 17 with (go_at_call 18;(with_reducible refine HM.out.mono ?_);rintro e ZK ⟨rfl,kZ⟩)
     obtain⟨W9,je⟩:=bQ (ZK.alloc (.cells #[.int .i64 J'.c, .int .i64 J'.s, .int .i64 J'.mi, .int .i64 J'.ma, .int .i64 J'.t, .int .i64 J'.l] 42))
     have oO:ah ZK W9:=by rw [je];exact ag
     have k9:rH W9 ZK.heap.size J':=by rw [je];exact rH.new _ J'
     have pD:=hdd ((wO.out.later kZ).later oO)
     obtain⟨j0,j1,j2,j3,j4,j5⟩:=k9.cells
     have kb9:=pD.out.2.2.2.box
     obtain⟨z0,z1,z2,z3,z4,z5,zf⟩:W9.cell? ⟨bo,0,none⟩=some (.int .i64 P.c)/\W9.cell? ⟨bo,1,none⟩=some (.int .i64 P.s)/\W9.cell? ⟨bo,2,none⟩=some (.int .i64 P.mi)/\W9.cell? ⟨bo,3,none⟩=some (.int .i64 P.ma)/\W9.cell? ⟨bo,4,none⟩=some (.int .i64 P.t)/\W9.cell? ⟨bo,5,none⟩=some (.int .i64 P.l)/\∀o,W9.frozen? ⟨bo,o,none⟩=false:=by simp [World.cell?,World.frozen?,kb9]
     rw [<-je]
     clear je kZ oO k9 kb9 x1 x2 x3 x4 x5 x6 HM
     go_wp2_with fail
     go_roundg (S.length-(c+1))
     case measure=>omega
     case rel=>exact⟨c+1,af,rfl,by go_num,hdd (by rw [HJ'.out];exact pD.out.set)⟩
    ·obtain rfl:c=S.length:=af
     obtain⟨ZJ,rfl⟩:=bQ (wr)
     have htk:aN (S.take S.length)=T:=by rw [List.take_length];exact qh.out
     rw [htk]at HR
     have HS:=hdd fun W (h:ah ZJ W)=>(⟨(Vw.out W (Below.trans' HR.out.1 h HR.out.1.size)).1,(HR.out.2.2.2.later h).cells,by
      obtain⟨-,c1,c2,c3,c4,c5,c6,-⟩:=Zg.out W (Below.trans' HR.out.1 h HR.out.1.size)
      exact⟨c1,c2,c3,c4,c5,c6⟩⟩:W.cell? ⟨eb,bZ+i*8,none⟩=some (.int .i64 0)/\(W.cell? ⟨bo,0,none⟩=some (.int .i64 T.c)/\W.cell? ⟨bo,1,none⟩=some (.int .i64 T.s)/\W.cell? ⟨bo,2,none⟩=some (.int .i64 T.mi)/\W.cell? ⟨bo,3,none⟩=some (.int .i64 T.ma)/\W.cell? ⟨bo,4,none⟩=some (.int .i64 T.t)/\W.cell? ⟨bo,5,none⟩=some (.int .i64 T.l))/\W.cell? ⟨eb,bZ+(K+3)*8+1,none⟩=some (.int .i64 T.c)/\W.cell? ⟨eb,bZ+(K+3)*8+2,none⟩=some (.int .i64 T.s)/\W.cell? ⟨eb,bZ+(K+3)*8+3,none⟩=some (.int .i64 T.mi)/\W.cell? ⟨eb,bZ+(K+3)*8+4,none⟩=some (.int .i64 T.ma)/\W.cell? ⟨eb,bZ+(K+3)*8+5,none⟩=some (.int .i64 T.t)/\W.cell? ⟨eb,bZ+(K+3)*8+6,none⟩=some (.int .i64 T.l))
     have kS:=fun w'=>rV (ab:=eb) (aY:=bZ) (n:=qs.length) (cap:=UN) (show (i:Int)=((i:Nat):Int) by rfl) IJ w'
     clear htk
     go_upto_region 19 with (fail)
     refine cV [(0,1),(1,1),(2,1),(3,1),(4,0),(5,1),(6,1),(7,0),(8,1),(9,1),(10,1),(11,1),(12,1),(13,0),(14,1),(15,3)] 15 (fun W=>W.cell? ⟨eb,bZ+i*8,none⟩=some (.int .i64 0)/\(W.cell? ⟨bo,0,none⟩=some (.int .i64 T.c)/\W.cell? ⟨bo,1,none⟩=some (.int .i64 T.s)/\W.cell? ⟨bo,2,none⟩=some (.int .i64 T.mi)/\W.cell? ⟨bo,3,none⟩=some (.int .i64 T.ma)/\W.cell? ⟨bo,4,none⟩=some (.int .i64 T.t)/\W.cell? ⟨bo,5,none⟩=some (.int .i64 T.l))/\W.cell? ⟨eb,bZ+(K+3)*8+1,none⟩=some (.int .i64 T.c)/\W.cell? ⟨eb,bZ+(K+3)*8+2,none⟩=some (.int .i64 T.s)/\W.cell? ⟨eb,bZ+(K+3)*8+3,none⟩=some (.int .i64 T.mi)/\W.cell? ⟨eb,bZ+(K+3)*8+4,none⟩=some (.int .i64 T.ma)/\W.cell? ⟨eb,bZ+(K+3)*8+5,none⟩=some (.int .i64 T.t)/\W.cell? ⟨eb,bZ+(K+3)*8+6,none⟩=some (.int .i64 T.l)) cy cy (HS.out _ (aJ _ _).drew) ?_
     (simp only [bF,List.filterMap_cons,List.filterMap_nil,List.getElem?_cons_zero,List.getElem?_cons_succ,Option.map_some])
     (repeat (first|refine jy ?_|refine jx ?_|refine jw ?_);(try simp only [Act.put,List.setIfInBounds_toArray,List.set_cons_zero,List.set_cons_succ]))
     refine fX ?_ (fun K hK=>?_)
     (focus (first|exact bh rfl _|exact dP rfl rfl rfl rfl))
     go_simp
     refine hK _ _ ?_
     clear hK K
     refine gZ ?_
     have Vz:=hdd (Below.trans' HR.out.1 (aJ ZJ.heap.size ZJ).drew HR.out.1.size)
     go_wp2_with fail
     go_roundg (3-(j+1))
     case measure=>have:=HJ3.out;omega
     case rel=>exact⟨j+1,by have:=HJ3.out;omega,rfl,by rw [<-HI.out];go_num,Vz.out⟩
  ·obtain rfl:j=3:=af
   have U1:=HQK.out
   have hnl:¬((i:Int)<(K:Int)+3):=af
   have hcell:∀j,j<3->∃so c,∀W,ah w5 W->W.cell? ⟨eb,bZ+(K+j)*8+7,none⟩=some (.slice so (R j).length c):=fun j hj=>by
    have hl:K+j<qs.length:=af
    have h1:=Zo.out j af hl
    rw [ar hj]at h1
    have h2:=KI.out qs[K+j] (fO hl)
    have h3:=fun W (h:ah w5 W)=>(wQ (w:=W) (b:=eb) (off:=bZ) (xs:=qs) (fun i x hi j u hu=>(h.cell (p:=⟨eb,_,none⟩) ebb).trans (UD.out i x hi j u hu)) hl).2.2.2.2.2.2.2
    obtain⟨q,hq⟩:=bw (qs[K+j])
    rw [hq]at h1 h2 h3
    obtain⟨an,so,sn,sp⟩:=q
    obtain rfl:an=⟨0,au.zero,R j⟩:=h1
    replace h2:eQ w5 (.slice so sn sp) (R j):=h2
    obtain⟨_,_,hv,-⟩:=h2
    injection hv with hv1 hv2 hv3
    subst hv2
    exact⟨so,sp,h3⟩
   obtain⟨s0,p0',hc0⟩:=hcell 0 af
   obtain⟨s1,VI,hc1⟩:=hcell 1 af
   obtain⟨s2,Sb,hc2⟩:=hcell 2 af
   have KS:((R 1).length:Int)<=((R 0).length:Int):=by have:=Fi.out.VQ;omega
   have hl2:((R 2).length:Int)<=((R 1).length:Int):=by have:=Fi.out.VP;omega
   obtain⟨r0,PR⟩:=bw ((R 0).length)
   obtain⟨r1,hr1⟩:=bw ((R 1).length)
   obtain⟨r2,hr2⟩:=bw ((R 2).length)
   rw [PR]at hc0 KS
   rw [hr1]at hc1 KS hl2
   rw [hr2]at hc2 hl2
   rw [Nat.add_zero]at hc0
   have PX:=fun w'=>rV (ab:=eb) (aY:=bZ) (n:=qs.length) (cap:=UN) (show (K:Int)=((K:Nat):Int) by rfl) af w'
   have S4:=fun w'=>rV (ab:=eb) (aY:=bZ) (n:=qs.length) (cap:=UN) (show (K:Int)+1=((K+1:Nat):Int) by omega) af w'
   have JX:=fun w'=>rV (ab:=eb) (aY:=bZ) (n:=qs.length) (cap:=UN) (show (K:Int)+2=((K+2:Nat):Int) by omega) af w'
   have hw1:IntKind.i64.wrap ((K:Int)+1)=(K:Int)+1:=IntWalk.i64_in _ af
   have hw2:IntKind.i64.wrap ((K:Int)+2)=(K:Int)+2:=IntWalk.i64_in _ af
   have ie:(K:Int)<(qs.length:Int):=af
   have hk1:(K:Int)+1<(qs.length:Int):=af
   have hk2:(K:Int)+2<(qs.length:Int):=af
   have HS:=hdd fun W (h:ah wr W)=>(⟨hc0 W (Below.trans' hb h hb.size),hc1 W (Below.trans' hb h hb.size),hc2 W (Below.trans' hb h hb.size)⟩:W.cell? ⟨eb,bZ+K*8+7,none⟩=some (.slice s0 r0 p0')/\W.cell? ⟨eb,bZ+(K+1)*8+7,none⟩=some (.slice s1 r1 VI)/\W.cell? ⟨eb,bZ+(K+2)*8+7,none⟩=some (.slice s2 r2 Sb))
   have Vz:=hdd (Below.trans' CO.out (Below.trans' hb (aJ wr.heap.size wr).drew hb.size) CO.out.size)
   clear hc0 hc1 hc2 PR hr1 hr2 hcell U1 hi hb hj
   go_upto_region 21 with (fail)
   refine cV [(0,1),(1,1),(2,1),(3,1),(4,0),(5,1),(6,1),(7,1),(8,1),(9,1),(10,1),(11,0),(12,1),(13,1),(14,1),(15,1),(16,1),(17,1),(18,1),(19,1),(20,0),(21,1),(22,1),(23,1),(24,1),(25,1),(26,1),(27,0),(28,1),(29,1),(30,1),(31,3)] 31 (fun W=>W.cell? ⟨eb,bZ+K*8+7,none⟩=some (.slice s0 r0 p0')/\W.cell? ⟨eb,bZ+(K+1)*8+7,none⟩=some (.slice s1 r1 VI)/\W.cell? ⟨eb,bZ+(K+2)*8+7,none⟩=some (.slice s2 r2 Sb)) cy cy (HS.out _ (aJ _ _).drew) ?_
   (simp only [bF,List.filterMap_cons,List.filterMap_nil,List.getElem?_cons_zero,List.getElem?_cons_succ,Option.map_some])
   (repeat (first|refine jy ?_|refine jx ?_|refine jw ?_);(try simp only [Act.put,List.setIfInBounds_toArray,List.set_cons_zero,List.set_cons_succ]))
   refine fX ?_ (fun K hK=>?_)
   (focus (first|exact bh rfl _|exact dP rfl rfl rfl rfl))
   go_simp
   refine hK _ _ ?_
   clear hK K
   refine gZ ?_
   go_wp2_with fail
   go_ret
   exact⟨rfl,Vz.out⟩
end Go.Proofs.YtmljjfhgciaceaaDoor
