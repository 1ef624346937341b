/- Texts of mine that come as one: StrIx Points RowsP RowsM. -/
import Derived.Test.YtmljjfhgciaceaaDoorHd
import Derived.Test.YtmljjfhgciaceaaDoorSX
import Derived.Test.YtmljjfhgciaceaaDoorBK
import Derived.Test.YtmljjfhgciaceaaDoorAW
import Derived.Test.YtmljjfhgciaceaaDoorKG
namespace Go.Proofs.YtmljjfhgciaceaaDoor
open Go.RowKit
section
set_option maxRecDepth 100000
set_option maxHeartbeats 1000000
variable {s:ByteArray} {xs:List ByteArray} {w:World}
theorem iA {va vb:Value} {xs ys:List aA} (ha:eQ w va xs) (hb:eQ w vb ys) :
  Calls Tryd.prog 62 #[va,vb] w fun e w'=>e = .returned (.bool (decide (xs=ys)))/\ah w w':=by
 obtain⟨ao,ca,rfl,a1,a2,a3,a4,a5⟩:=ha
 obtain⟨bo,cb,rfl,b1,b2,b3,b4,b5⟩:=hb
 by_cases hl:xs.length=ys.length
 ·have hl':((xs.length:Int) != (ys.length:Int))=false:=by simp [hl]
  have HL:=hdd hl
  clear hl
  go_enter Tryd.func62,Tryd.ntmps62
  go_wp2_with fail
  go_loopg [13] xs.length (fun g i wr=>∃k:Nat,k<=xs.length/\g=xs.length-k/\i = .int .i64 k/\Hid (xs.take k=ys.take k)/\ah w wr)
  case atStart=>exact⟨0,iN _,rfl,rfl,hdd bq,aJ _ _⟩
  case round=>
   obtain⟨k,hk,rfl,rfl,HE,di⟩:=hrel
   by_cases hlt:k<xs.length
   ·obtain⟨ab,aY,rfl,xD,ac⟩:=a5 af
    obtain⟨bb,ahe,rfl,bbb,bc⟩:=b5 (by have:=HL.out;omega)
    have jH:k<ys.length:=by have:=HL.out;omega
    obtain⟨c0,c1,c2,c3,c4,c5,c6⟩:=bR di xD ac hlt
    obtain⟨d0,d1,d2,d3,d4,d5,d6⟩:=bR di bbb bc jH
    clear ac bc a5 b5
    obtain⟨e,he⟩:=bw (xs[k])
    obtain⟨f,hf⟩:=bw (ys[k])
    rw [he]at c0 c1 c2 c3 c4 c5 c6
    rw [hf]at d0 d1 d2 d3 d4 d5 d6
    have EE:=hdd he
    have FF:=hdd hf
    clear he hf
    have hne:=C2 e f
    by_cases Q8:e=f
    ·have abe:(decide (e=f))=true:=by simp [Q8]
     have UC:=hdd Q8
     clear Q8
     go_wp2
     go_quiet (fail)
     go_wp2
     go_roundg (xs.length-(k+1))
     case measure=>omega
     case rel=>exact⟨k+1,af,rfl,by go_num,hdd (BH HE.out hlt jH (by rw [EE.out,FF.out,UC.out])),(by repeat (first|exact aJ _ _|assumption|refine cM ?_ _|refine Below.drew ?_|refine Below.alloc ?_ (by simp <;> omega) _|refine Below.setCell ?_ (by simp <;> omega) _))⟩
    ·have abe:(decide (e=f))=false:=by simp [Q8]
     have hxy:decide (xs=ys)=false:=by simpa using JF hlt jH (by rw [EE.out,FF.out];exact Q8)
     clear Q8
     go_wp2
     go_quiet (fail)
     go_wp2
     go_ret
     exact⟨dQ hxy.symm,(by repeat (first|exact aJ _ _|assumption|refine cM ?_ _|refine Below.drew ?_|refine Below.alloc ?_ (by simp <;> omega) _|refine Below.setCell ?_ (by simp <;> omega) _))⟩
   ·have hxy:decide (xs=ys)=true:=by
     have h1:=HE.out
     have h2:=HL.out
     rw [kJ af,kJ af]at h1
     simpa using h1
    go_wp2
    go_ret
    exact⟨dQ hxy.symm,(by repeat (first|exact aJ _ _|assumption|refine cM ?_ _|refine Below.drew ?_|refine Below.alloc ?_ (by simp <;> omega) _|refine Below.setCell ?_ (by simp <;> omega) _))⟩
 ·have hl':((xs.length:Int) != (ys.length:Int))=true:=by simp;omega
  have hxy:decide (xs=ys)=false:=by simp;intro h;subst h;exact hl rfl
  clear hl
  go_enter Tryd.func62,Tryd.ntmps62
  go_wp2_with fail
  go_ret
  exact⟨dQ hxy.symm,(by repeat (first|exact aJ _ _|assumption|refine cM ?_ _|refine Below.drew ?_|refine Below.alloc ?_ (by simp <;> omega) _|refine Below.setCell ?_ (by simp <;> omega) _))⟩
def aG (xs:List ByteArray) (s:ByteArray):Int:=if xs.findIdx (fun x=>decide (x=s))<xs.length then((xs.findIdx fun x=>decide (x=s):Nat):Int)else -1
theorem uo {k:Nat} (hk:k<xs.length) (h:xs[k]=s) (hb:∀j (_hj:j<k) (hjn:j<xs.length),xs[j]≠s):aG xs s=k:=by
 have:xs.findIdx (fun x=>decide (x=s))=k:=(List.findIdx_eq hk).2 ⟨by simp [h],fun j hj=>by have:=hb j hj af;simpa using this⟩
 unfold aG;rw [this,ar hk]
theorem yK (hb:∀j (hj:j<xs.length),xs[j]≠s):aG xs s = -1:=by
 have:xs.findIdx (fun x=>decide (x=s))=xs.length:=List.findIdx_eq_length_of_false fun x hx=>by
  obtain⟨j,hj,rfl⟩:=kW hx
  have:=hb j hj;simpa using this
 unfold aG;rw [this,ai af]
theorem eX (xs:List ByteArray) (s:ByteArray):(∃(k:Nat) (hk:k<xs.length),aG xs s=k/\xs[k]=s/\∀j (_hj:j<k) (hjn:j<xs.length),xs[j]≠s)\/(aG xs s = -1/\∀j (hj:j<xs.length),xs[j]≠s):=by
 by_cases h:xs.findIdx (fun x=>decide (x=s))<xs.length
 ·have h2:=(List.findIdx_eq (p:=fun x=>decide (x=s)) h).1 rfl
  have h3:∀j (hj:j<xs.findIdx (fun x=>decide (x=s))) (hjn:j<xs.length),xs[j]≠s:=fun j hj hjn=>by have:=h2.2 j hj;simpa using this
  have h4:xs[xs.findIdx (fun x=>decide (x=s))]=s:=by simpa using h2.1
  exact .inl ⟨_,h,uo h h4 h3,h4,h3⟩
 ·refine .inr ?_
  have h3:∀j (hj:j<xs.length),xs[j]≠s:=fun j hj=>by
   have:=List.not_of_lt_findIdx (p:=fun x=>decide (x=s)) (xs:=xs) (i:=j) af
   simpa using this
  exact⟨yK h3,h3⟩
theorem jM.take {sa:Option Addr} {n sc i:Nat} (h:jM w (.slice sa n sc) xs) (hi:i<=xs.length):jM w (.slice sa i sc) (xs.take i):=by
 obtain⟨ao,cap,hv,h1,h2,h3,h4,h5⟩:=h
 injection hv with e1 e2 e3
 subst e1 e2 e3
 have hl:(xs.take i).length=i:=by rw [fw];omega
 refine⟨sa,sc,by rw [hl],af,h2,af,h4,fun h0=>?_⟩
 obtain⟨b,off,e,hb,hc⟩:=h5 af
 refine⟨b,off,e,hb,fun k x hx=>hc k x ?_⟩
 rw [qd]at hx
 split at hx
 ·exact hx
 ·cases hx
theorem mQ {v:Value} (h:jM w v xs) :
  Calls Tryd.prog 41 #[v, .string s] w fun e w'=>e = .returned (.int .i64 (aG xs s))/\ah w w':=by
 obtain⟨ao,cap,rfl,a1,a2,a3,a4,a5⟩:=h
 go_enter Tryd.func41,Tryd.ntmps41
 go_wp2_with fail
 go_loopg [8] xs.length (fun g i wr=>∃k:Nat,k<=xs.length/\g=xs.length-k/\i = .int .i64 k/\Hid (∀j (hj:j<k) (hjn:j<xs.length),xs[j]≠s)/\ah w wr)
 case atStart=>exact⟨0,iN _,rfl,rfl,hdd (fun j hj=>af),aJ _ _⟩
 case round=>
  obtain⟨k,hk,rfl,rfl,HN,hb⟩:=hrel
  by_cases hlt:k<xs.length
  ·obtain⟨ab,aY,rfl,xD,ac⟩:=a5 af
   have e0:=vG hb xD ac hlt
   obtain⟨y,hy⟩:=bw (xs[k])
   rw [hy]at e0
   have HY:=hdd hy
   have kS:=fun w'=>Ca (ab:=ab) (aY:=aY) (n:=xs.length) (cap:=cap) (show (k:Int)=((k:Nat):Int) by rfl) hlt w'
   have KQ:=Lh s y
   clear ac a5 hy
   by_cases Gs:s=y
   ·have HP:=hdd (uo hlt (HY.out.trans Gs.symm) HN.out)
    have Wm:decide (s=y)=true:=by simp [Gs]
    rw [Wm]at KQ
    clear Gs Wm
    go_wp2
    go_ret
    rw [HP.out]
    exact⟨rfl,hb⟩
   ·have Fg:=hdd (show ∀j (hj:j<k+1) (hjn:j<xs.length),xs[j]≠s from fun j hj hjn=>by
     by_cases hjk:j=k
     ·subst hjk;rw [HY.out];exact fun h=>Gs h.symm
     ·exact HN.out j af hjn)
    have Wm:decide (s=y)=false:=by simp [Gs]
    rw [Wm]at KQ
    clear Gs Wm
    go_wp2
    go_roundg (xs.length-(k+1))
    case measure=>omega
    case rel=>exact⟨k+1,af,rfl,by go_num,Fg,hb⟩
  ·have HP:=hdd (yK (xs:=xs) (s:=s) fun j hj=>HN.out j af hj)
   go_wp2
   go_ret
   rw [HP.out]
   exact⟨rfl,hb⟩
theorem xM {v:Value} (h:jM w v xs) :
  Calls Tryd.prog 59 #[v, .string s] w fun e w'=>e = .returned (.bool (decide (0<=aG xs s)))/\ah w w':=by
 have HI:=hdd (mQ (s:=s) h)
 obtain⟨p,hp⟩:=bw (aG xs s)
 rw [hp]at HI ⊢
 clear hp
 go_enter Tryd.func59,Tryd.ntmps59
 go_wp2_with ((go_at_call 41;(with_reducible refine HI.out.mono ?_);rintro e w2 ⟨rfl,hb2⟩))
 go_ret
 exact⟨rfl,hb2⟩
end
section
set_option maxRecDepth 100000
set_option maxHeartbeats 1000000
theorem FQ {v:Value} {b:Ba} {w:World} (h:bN w v b) :
  Calls Tryd.prog 60 #[v] w (Qp w.heap.size w (bW b)):=by
 obtain⟨sa,sc,g0,l0,p0,g1,l1,p1,g2,l2,p2,rfl,hn,_,T0,_,_⟩:=h.open
 obtain⟨W0,hW0⟩:=bQ (w.alloc (.cells (aH sa b.names.length sc g0 l0 p0 g1 l1 p1 g2 l2 p2 b) 35))
 have hb0:ah w W0:=by rw [hW0];exact ag
 have hz0:W0.heap.size=w.heap.size+1:=by rw [hW0];simp
 have k0:W0.heap[w.heap.size]?=some (.cells (aH sa b.names.length sc g0 l0 p0 g1 l1 p1 g2 l2 p2 b) 35):=by rw [hW0];exact aq _ _ rfl
 have HX:=hdd fun w' (hb:ah W0 w')=>(by
  have b0:w'.heap[w.heap.size]?=_:=(hb.block _ af).trans k0
  simp [World.cell?,b0] :
  w'.cell? ⟨w.heap.size,0,none⟩=some (.slice sa b.names.length sc)/\w'.cell? ⟨w.heap.size,7,none⟩=some (.int .i64 b.floor))
 have HB:=hdd fun w' (hb:ah W0 w')=>(Below.trans' hb0 hb hb0.size:ah w w')
 have HA:=hdd ((iK (lo:=0) (hi:=1099511627776) (T0 W0 hb0)).mono fun e w' hp=>n9.allT hp)
 obtain⟨c1,c2⟩:W0.cell? ⟨w.heap.size,1,none⟩=some (.slice g0 l0 p0)/\W0.cell? ⟨w.heap.size,2,none⟩=some (.int .i64 b.t0.root):=by simp [World.cell?,k0]
 clear T0
 go_enter Tryd.func60,Tryd.ntmps60
 go_upto_region 1 with (fail)
 rw [<-hW0]
 clear hW0 k0
 cases hT:allT b.t0 with
 |none=>
  have HN:=hdd (Km hT)
  rw [hT]at HA
  clear hT
  go_wp2_with ((go_at_call 55;(with_reducible refine HA.out.mono ?_);rintro e w1 ⟨hb1,E,hE,rfl⟩;have di:=HB.out _ hb1))
  go_ret2
  rw [HN.out]
  exact⟨di,rfl⟩
 |some l=>
  have HT:=hdd hT
  have HG:=hdd (fI hT)
  have hlen:l.length<=50000:=(fI hT).2.2.2
  rw [hT]at HA
  clear hT
  go_upto_region 4 with ((go_at_call 55;(with_reducible refine HA.out.mono ?_);rintro e w1 ⟨hb1,v1,rfl,Ap⟩;obtain⟨s1,d1,rfl⟩:=Ap.isSlice))
  have HL:=hdd (Ap.at af)
  have HO:=hdd Ap
  have hz1:=hb1.size
  clear c1 c2 Ap
  go_wp2_with fail
  go_loopg [20] l.length (fun g i wr=>∃k:Nat,k<=l.length/\g=l.length-k/\i = .int .i64 k/\Hid ((l.take k).all (jm b)=true)/\ah w1 wr)
  case atStart=>exact⟨0,iN _,rfl,rfl,hdd rfl,aJ _ _⟩
  case round=>
   obtain⟨k,hk,rfl,rfl,HR,hb⟩:=hrel
   have hsz:=hb.size
   have Tp:ah W0 wr:=Below.trans' hb1 hb hz1
   obtain⟨x0,x7⟩:=HX.out _ Tp
   by_cases hlt:k<l.length
   ·obtain⟨_,_,hv,-,-,-,-,h5⟩:=HL.out
    injection hv with hv1 _ hv3
    subst hv3
    obtain⟨eb,bZ,lR,rW,nH⟩:=h5 af
    subst lR
    subst hv1
    obtain⟨y0,y1,y2,y3,y4,y5,y6⟩:=bR hb rW nH hlt
    obtain⟨y,hy⟩:=bw (l[k])
    rw [hy]at y0 y1 y2 y3 y4 y5 y6
    have CI:y∈l:=by rw [<-hy];exact fO hlt
    obtain⟨ie,hk1⟩:=HG.out.2.2.1 y CI
    have tP:=hdd fun(h:jm b y=false)=>Nz HT.out hlt (by rw [hy];exact h)
    have E4:=hdd fun(h:jm b y=true)=>(by rw [mn hlt,List.all_append,HR.out,hy];simp [h]:(l.take (k+1)).all (jm b)=true)
    obtain⟨M,hM⟩:=bw (y.key%1048576)
    obtain⟨Q,hQ⟩:=bw (y.key/1048576)
    have KY:0<=M/\M<1048576:=af
    have Vb:0<=Q/\Q<1048576:=af
    have m1:y.key.tmod 1048576=M:=by rw [xO ie];exact hM
    have m2:y.key.tdiv 1048576=Q:=by rw [AB ie];exact hQ
    have m3:IntKind.i64.wrap M=M:=IntWalk.i64_in _ af
    have m4:IntKind.i64.wrap Q=Q:=IntWalk.i64_in _ af
    have pC:=hdd (show jm b y=(decide (Q<b.names.length) && decide (b.floor<=M) && decide (y.is.t=M)) by simp [jm,hM,hQ])
    have kS:=fun w'=>dD (ab:=eb) (aY:=bZ) (n:=l.length) (cap:=d1) (show (k:Int)=((k:Nat):Int) by rfl) hlt w'
    have hwz:eb<wr.heap.size:=af
    have YX:ah w wr:=HB.out _ Tp
    obtain⟨W1,hW1⟩:=bQ (wr.alloc (.cells #[.int .i64 y.key, .int .i64 y.is.c, .int .i64 y.is.s, .int .i64 y.is.mi, .int .i64 y.is.ma, .int .i64 y.is.t, .int .i64 y.is.l] 96))
    have hb1:ah wr W1:=by rw [hW1];exact ag
    have k1:W1.heap[wr.heap.size]?=some (.cells #[.int .i64 y.key, .int .i64 y.is.c, .int .i64 y.is.s, .int .i64 y.is.mi, .int .i64 y.is.ma, .int .i64 y.is.t, .int .i64 y.is.l] 96):=by rw [hW1];exact aq _ _ rfl
    have vz:ah w1 W1:=Below.trans' hb hb1 hsz
    have agB:ah w W1:=Below.trans' YX hb1 YX.size
    obtain⟨z0,z7⟩:=HX.out _ (Below.trans' Tp hb1 Tp.size)
    obtain⟨q0,q5⟩:W1.cell? ⟨wr.heap.size,0,none⟩=some (.int .i64 y.key)/\W1.cell? ⟨wr.heap.size,5,none⟩=some (.int .i64 y.is.t):=by simp [World.cell?,k1]
    clear nH h5 hy CI hM hQ KY Vb Tp
    go_upto_region 7 with (fail)
    rw [<-hW1]
    clear hW1 k1 x0 x7 y0 y1 y2 y3 y4 y5 y6
    by_cases i1:Q<b.names.length
    ·have e1:decide ((b.names.length:Int)<=Q)=false:=by simp;omega
     by_cases i2:b.floor<=M
     ·have e2:decide (M<b.floor)=false:=by simp;omega
      by_cases i3:y.is.t=M
      ·have e3:(y.is.t != M)=false:=by simp [i3]
       have Zz:=hdd (E4.out (by rw [pC.out];simp [i1,i2,i3]))
       clear i1 i2 i3 E4 tP pC
       go_wp2
       go_roundg (l.length-(k+1))
       case measure=>omega
       case rel=>exact⟨k+1,af,rfl,by go_num,Zz,ag⟩
      ·have e3:(y.is.t != M)=true:=by simp [i3]
       have Fj:=hdd (tP.out (by rw [pC.out];simp [i3]))
       clear i1 i2 i3 E4 tP pC
       go_wp2
       go_ret2
       rw [Fj.out]
       exact⟨ag,rfl⟩
     ·have e2:decide (M<b.floor)=true:=by simp;omega
      have Fj:=hdd (tP.out (by rw [pC.out];simp [i2]))
      clear i1 i2 E4 tP pC
      go_wp2
      go_ret2
      rw [Fj.out]
      exact⟨ag,rfl⟩
    ·have e1:decide ((b.names.length:Int)<=Q)=true:=by simp;omega
     have Fj:=hdd (tP.out (by rw [pC.out];simp [i1]))
     clear i1 E4 tP pC
     go_wp2
     go_ret2
     rw [Fj.out]
     exact⟨ag,rfl⟩
   ·have HN:=hdd (uX HT.out (by have:=HR.out;rw [kJ af]at this;exact this))
    have YX:ah w wr:=HB.out _ Tp
    have ho:=(HO.out.below hb aI).mono (show w.heap.size<=W0.heap.size by omega)
    clear Tp
    go_wp2
    go_ret2
    rw [HN.out]
    exact⟨YX,_,rfl,ho⟩
end
end Go.Proofs.YtmljjfhgciaceaaDoor
namespace Go.Proofs.YtmljjfhgciaceaaDoor
section
variable {b:Ba} {a z:Int} {l:List aA}
theorem l7 {p:Int->Bool} (l:List aA) (k:Int):look (l.filter fun e=>p e.key) k=if p k=true then look l k else au.zero:=by
 induction l with
 |nil=>simp [look]
 |cons e l ih=>
  by_cases h:p e.key=true
  ·rw [tN (by simpa using h)]
   simp only [look]
   by_cases hk:e.key=k
   ·rw [ar hk,ar hk,ih]
    subst hk
    rw [ar h,ar h]
   ·rw [ai hk,ai hk,ih]
  ·rw [sx (by simpa using h),ih]
   simp only [look]
   by_cases hk:e.key=k
   ·subst hk;rw [ai h,ai h]
   ·rw [ai hk]
theorem Af (h:aV l) (p:aA->Bool):aV (l.filter p):=List.Pairwise.sublist List.filter_sublist h
theorem ky (h:aT l) (p:aA->Bool):aT (l.filter p):=fun e he=>h e (js.1 he).1
theorem rq {es:List aA} (hl:Checked l) (h:ft l=some es) (p:Int->Bool):ft (l.filter fun e=>p e.key)=some (es.filter fun e=>p e.key):=by
 obtain⟨h1,h2,_,_,h5⟩:=fT hl h
 have hs:Small (l.filter fun e=>p e.key):=fun k=>by
  rw [l7]
  split
  ·exact h2 k
  ·decide
 rw [jA (iU hl),ar hs]
 congr 1
 refine nj (cJ (ky hl.bJ _)) (Af h5 _) (dh (ky hl.bJ _)) (ky (by rw [h1];exact dh hl.bJ) _) fun k=>?_
 rw [eG (ky hl.bJ _),l7,l7,h1,eG hl.bJ]
theorem ER {t:Tr} {m:List aA} (h:allT t=some m) (lo hi:Int):ax t=0/\kH t lo hi=some (m.filter (aU lo hi)):=by
 unfold allT at h
 split at h
 ·rename_i hf
  refine⟨hf,?_⟩
  obtain⟨_,hv⟩:=cW hf
  unfold kH at *
  have hall:t.all.filter (aU 0 1099511627776)=t.all:=List.filter_eq_self.2 fun e he=>by
   have:=lU hv e he
   simp [aU];omega
  rw [hall]at h
  exact rq (cz hv) h fun k=>decide (lo<=k) && decide (k<hi)
 ·cases h
theorem iW (h:aQ b=true):∃l,bW b=some l/\aV l/\dY l/\∀k,k<3->∃m,bU l (aR k)=some m/\allT (b.tree k)=some m:=by
 obtain⟨l,hl,ht⟩:=(dJ h).trees
 refine⟨l,hl,(gq hl).1,(gq hl).2,fun k hk=>?_⟩
 have:=ht k hk
 unfold fL at this
 cases h1:bU l (aR k) with
 |none=>rw [h1]at this;cases this
 |some a=>
  cases h2:allT (b.tree k) with
  |none=>rw [h1,h2]at this;cases this
  |some c=>
   rw [h1,h2]at this
   have E9:a=c:=by simpa using this
   exact⟨a,rfl,by rw [E9]⟩
noncomputable def bT (b:Ba) (s:ByteArray):Int:=if aQ b=true then(if aG b.names s<0 then 6 else 0)else 7
def kr (p a z:Int) (e:aA):Bool:=decide (e.key/1048576=p) && UR (e.key%1048576) a z
def rowOf (e:aA):aA:=⟨e.key%1048576,e.is⟩
def cO (a z:Int):Prop:=0<=a/\a<=z/\z<=1048575
instance (a z:Int):Decidable (cO a z):=by unfold cO;infer_instance
noncomputable def sG (b:Ba) (s:ByteArray) (size a z:Int):List aA:=
 match bW b with|none=>[]|some l=>match bU l size with|none=>[]|some m=>(m.filter (kr (aG b.names s) a z)).map rowOf
noncomputable def ey (b:Ba) (s:ByteArray) (size a z:Int):Int:=
 if bT b s≠0 then bT b s else if size≠1/\size≠60/\size≠3600 then 3 else if ¬cO a z then 2 else if 500<(sG b s size a z).length then 1 else 0
noncomputable def nR (b:Ba) (s:ByteArray) (size a z:Int):List aA:=if ey b s size a z=0 then sG b s size a z else []
theorem BX {p:Int} (h:cO a z) (e:aA):kr p a z e=aU (p*1048576+a) (p*1048576+z+1) e:=by
 obtain⟨h1,h2,h3⟩:=h
 unfold kr aU UR
 rw [Bool.eq_iff_iff]
 simp only [Bool.and_eq_true,sk]
 omega
theorem ou (b:Ba) (s:ByteArray):(bT b s=7/\aQ b=false)\/(bT b s=6/\aQ b=true/\aG b.names s = -1)\/(bT b s=0/\aQ b=true/\∃k:Nat,k<16/\aG b.names s=k):=by
 unfold bT
 cases h:aQ b with
 |false=>exact .inl ⟨bq,rfl⟩
 |true=>
  rcases eX b.names s with ⟨k,hk,e,_⟩|⟨e,_⟩
  ·have:=(dJ h).n16
   exact .inr (.inr ⟨by simp only [if_true];rw [ai af],rfl,k,af,e⟩)
  ·exact .inr (.inl ⟨by simp only [if_true];rw [ar af],rfl,e⟩)
theorem C5 {s:ByteArray} {k:Nat} (h:aQ b=true) (hk:k<3) (hr:cO a z) :
  ∃m,sG b s (aR k) a z=(m.filter (aU (aG b.names s*1048576+a) (aG b.names s*1048576+z+1))).map rowOf/\ax (b.tree k)=0 /\
   kH (b.tree k) (aG b.names s*1048576+a) (aG b.names s*1048576+z+1)=some (m.filter (aU (aG b.names s*1048576+a) (aG b.names s*1048576+z+1)))/\aV m/\dY m:=by
 obtain⟨l,hl,_,hg,ht⟩:=iW h
 obtain⟨m,h1,h2⟩:=ht k hk
 obtain⟨h3,h4⟩:=ER h2 (aG b.names s*1048576+a) (aG b.names s*1048576+z+1)
 refine⟨m,?_,h3,h4,(fI h2).1,(fI h2).2⟩
 unfold sG
 rw [hl]
 simp only
 rw [h1]
 simp only
 congr 1
 exact List.filter_congr fun e _=>BX hr e
end
open Go.RowKit
section
variable {es:List aA} {B C:Nat} {w w':World}
theorem Tryd.aa2:(Tryd.prog.info? 52).map (fun i=>(i.zero.map (fun z=>z.cells.size),i.size,i.bytes))=some (some 7,7,56):=cy
structure OwnRows (B:Nat) (w:World) (v:Value) (es:List aA):Prop where
 row:w.ownsRow B 52 7 v es.length (es.flatMap bj)
theorem OwnRows.nil (B:Nat) (w:World):OwnRows B w (.slice none 0 0) []:=⟨World.ownsRow_nil _ _ _ _⟩
theorem OwnRows.alloc {v:Value} (h:OwnRows B w v es) (o:Obj):OwnRows B (w.alloc o) v es:=⟨World.ownsRow.alloc h.row o⟩
theorem OwnRows.block {v:Value} (h:OwnRows B w v es) (hb:∀g,v.ownBlock=some g->w'.heap[g]?=w.heap[g]?):OwnRows B w' v es:=by
 obtain⟨hl,⟨rfl,h0⟩|⟨g,cap,cur,rfl,hB,hg,h1,h2,h3,h4⟩⟩:=h.row
 ·exact⟨⟨hl, .inl ⟨rfl,h0⟩⟩⟩
 ·exact⟨⟨hl, .inr ⟨g,cap,cur,rfl,hB,(hb g rfl).trans hg,h1,h2,h3,h4⟩⟩⟩
theorem OwnRows.drew {v:Value} (h:OwnRows B w v es):OwnRows B w.drew v es:=h.block fun _ _=>rfl
theorem OwnRows.drewN {v:Value} (h:OwnRows B w v es) (n:Nat):OwnRows B (w.drewN n) v es:=h.block fun _ _=>rfl
theorem OwnRows.lt {v:Value} (h:OwnRows B w v es):∀g,v.ownBlock=some g->B<=g/\g<w.heap.size:=World.ownsRow.lt h.row
theorem OwnRows.below {v:Value} (h:OwnRows B w v es) (hb:Below C w w') (hC:w.heap.size<=C):OwnRows B w' v es:=h.block fun g hg=>hb.block g (by have:=(h.lt g hg).2;omega)
theorem OwnRows.mono {v:Value} (h:OwnRows B w v es) (hC:C<=B):OwnRows C w v es:=by
 obtain⟨hl,⟨rfl,h0⟩|⟨g,cap,cur,rfl,hB,hg,h1,h2,h3,h4⟩⟩:=h.row
 ·exact⟨⟨hl, .inl ⟨rfl,h0⟩⟩⟩
 ·exact⟨⟨hl, .inr ⟨g,cap,cur,rfl,af,hg,h1,h2,h3,h4⟩⟩⟩
theorem OwnRows.at {v:Value} (h:OwnRows B w v es) (hs:es.length<=1000000):eQ w v es:=dN.owned dg h.row rfl af
theorem OwnRows.isSlice {v:Value} (h:OwnRows B w v es):∃ao cap,v = .slice ao es.length cap:=by
 obtain⟨hl,⟨rfl,h0⟩|⟨g,cap,cur,rfl,_⟩⟩:=h.row
 ·exact⟨none,0,by rw [h0]⟩
 ·exact⟨_,_,rfl⟩
theorem tY {ops:Array Oper} {rest:List Oper} {o:Oper} {a:Act} {Q:Exit->Act->World->Prop} (hgd:o.guard=none) (s x:Operand)
  (ho:o.op = .call { callee:= .builtin .append,args:=#[s,x],argTypes:=#[43,43] }) (B:Nat) (v:Value) (es:List aA) (hs:a.eval s=v) (hown:OwnRows B w v es)
  (ad:Addr) (e:aA) (hx:a.eval x = .slice (some ad) 1 1) (hnews:∀j u,(bj e)[j]?=some u->w.cell? (ad.add j)=some u) (hlen:es.length<=1000000) (hbase:B<=w.heap.size)
  (h:∀v' w',OwnRows B w' v' (es++[e])->(∀C W,Below C W w->C<=B->Below C W w')->wpList Tryd.prog ops Q rest (a.put o.dst v') w'):wpList Tryd.prog ops Q (o::rest) a w:=by
 obtain⟨i0,z,hi,hz,hz1,hz2,hz3⟩:=cC Tryd.aa2
 refine wpList_append_own w hgd s x 43 ho B 52 i0 z 7 56 Tryd.underlying43 hi hz hz1 hz2 hz3 aW v es.length _ hs hown.row ad 1 1 (bj e) hx rfl hnews (jf [e] |> fun h u hu=>h u (by simpa using hu)) (by unfold maxLen;omega) af hbase ?_
 intro v' w' hown' hg _
 refine h v' w' ?_ fun C W hb hC=>Below.grown hb hg af (fun j hj=>by have:=(hown.lt j hj).1;omega)
 have:(es++[e]).flatMap bj=es.flatMap bj++bj e:=bq
 refine⟨?_⟩
 rw [this,eP]
 exact hown'
theorem Mk {ab aY n cap j:Nat} {i:Int} (h:i=j) (hj:j<n) (w:World):(Instr.indexAt 43 (.slice (some ⟨ab,aY,none⟩) n cap) (.int .i64 i)).run Tryd.prog w = .ok (.pointer (some ⟨ab,aY+j*7,none⟩)) w:=by
 subst h
 go_simp
end
end Go.Proofs.YtmljjfhgciaceaaDoor
