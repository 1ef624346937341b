/- Texts of mine that come as one: StrIx Points RowsP RowsM. -/
import Derived.Test.YtmljjfhgciaceaaDoorHd
import Derived.Test.YtmljjfhgciaceaaDoorSX
import Derived.Test.YtmljjfhgciaceaaDoorBK
import Derived.Test.YtmljjfhgciaceaaDoorAW
import Derived.Test.YtmljjfhgciaceaaDoorKG
namespace Go.Proofs.YtmljjfhgciaceaaDoor
open Go.RowKit
section
set_option maxRecDepth 100000
set_option maxHeartbeats 1000000
variable {s:ByteArray} {xs:List ByteArray} {w:World}
theorem iC {va vb:Value} {xs ys:List aC} (ha:fu w va xs) (hb:fu w vb ys) :
  Calls Tryd.prog 62 #[va,vb] w fun e w'=>e = .returned (.bool (decide (xs=ys)))/\ah w w':=by
 obtain⟨ao,ca,rfl,a1,a2,a3,a4,a5⟩:=ha
 obtain⟨bo,cb,rfl,b1,b2,b3,b4,b5⟩:=hb
 by_cases hl:xs.length=ys.length
 ·have hl':((xs.length:Int) != (ys.length:Int))=false:=by simp [hl]
  have HL:=hdd hl
  clear hl
  go_enter Tryd.func62,Tryd.ntmps62
  go_wp2_with fail
  go_loopg [13] xs.length (fun g i wr=>∃k:Nat,k<=xs.length/\g=xs.length-k/\i = .int .i64 k/\Hid (xs.take k=ys.take k)/\ah w wr)
  case atStart=>exact⟨0,jd _,rfl,rfl,hdd bj,aI _ _⟩
  case round=>
   obtain⟨k,hk,rfl,rfl,HE,cZ⟩:=hrel
   by_cases hlt:k<xs.length
   ·obtain⟨ab,aV,rfl,sO,ac⟩:=a5 af
    obtain⟨bb,ahh,rfl,bbb,bc⟩:=b5 (by have:=HL.out;omega)
    have jJ:k<ys.length:=by have:=HL.out;omega
    obtain⟨c0,c1,c2,c3,c4,c5,c6⟩:=bU cZ sO ac hlt
    obtain⟨d0,d1,d2,d3,d4,d5,d6⟩:=bU cZ bbb bc jJ
    clear ac bc a5 b5
    obtain⟨e,he⟩:=bt (xs[k])
    obtain⟨f,hf⟩:=bt (ys[k])
    rw [he]at c0 c1 c2 c3 c4 c5 c6
    rw [hf]at d0 d1 d2 d3 d4 d5 d6
    have EE:=hdd he
    have FF:=hdd hf
    clear he hf
    have hne:=Dn e f
    by_cases Re:e=f
    ·have ab6:(decide (e=f))=true:=by simp [Re]
     have UG:=hdd Re
     clear Re
     go_wp2
     go_quiet (fail)
     go_wp2
     go_roundg (xs.length-(k+1))
     case measure=>omega
     case rel=>exact⟨k+1,af,rfl,by go_num,hdd (Ck HE.out hlt jJ (by rw [EE.out,FF.out,UG.out])),(by repeat (first|exact aI _ _|assumption|refine cJ ?_ _|refine Below.drew ?_|refine Below.alloc ?_ (by simp <;> omega) _|refine Below.setCell ?_ (by simp <;> omega) _))⟩
    ·have ab6:(decide (e=f))=false:=by simp [Re]
     have hxy:decide (xs=ys)=false:=by simpa using JM hlt jJ (by rw [EE.out,FF.out];exact Re)
     clear Re
     go_wp2
     go_quiet (fail)
     go_wp2
     go_ret
     exact⟨dP hxy.symm,(by repeat (first|exact aI _ _|assumption|refine cJ ?_ _|refine Below.drew ?_|refine Below.alloc ?_ (by simp <;> omega) _|refine Below.setCell ?_ (by simp <;> omega) _))⟩
   ·have hxy:decide (xs=ys)=true:=by
     have h1:=HE.out
     have h2:=HL.out
     rw [lI af,lI af]at h1
     simpa using h1
    go_wp2
    go_ret
    exact⟨dP hxy.symm,(by repeat (first|exact aI _ _|assumption|refine cJ ?_ _|refine Below.drew ?_|refine Below.alloc ?_ (by simp <;> omega) _|refine Below.setCell ?_ (by simp <;> omega) _))⟩
 ·have hl':((xs.length:Int) != (ys.length:Int))=true:=by simp;omega
  have hxy:decide (xs=ys)=false:=by simp;intro h;subst h;exact hl rfl
  clear hl
  go_enter Tryd.func62,Tryd.ntmps62
  go_wp2_with fail
  go_ret
  exact⟨dP hxy.symm,(by repeat (first|exact aI _ _|assumption|refine cJ ?_ _|refine Below.drew ?_|refine Below.alloc ?_ (by simp <;> omega) _|refine Below.setCell ?_ (by simp <;> omega) _))⟩
def aS (xs:List ByteArray) (s:ByteArray):Int:=if xs.findIdx (fun x=>decide (x=s))<xs.length then((xs.findIdx fun x=>decide (x=s):Nat):Int)else -1
theorem uo {k:Nat} (hk:k<xs.length) (h:xs[k]=s) (hb:∀j (_hj:j<k) (hjn:j<xs.length),xs[j]≠s):aS xs s=k:=by
 have:xs.findIdx (fun x=>decide (x=s))=k:=(List.findIdx_eq hk).2 ⟨by simp [h],fun j hj=>by have:=hb j hj af;simpa using this⟩
 unfold aS;rw [this,ar hk]
theorem zi (hb:∀j (hj:j<xs.length),xs[j]≠s):aS xs s = -1:=by
 have:xs.findIdx (fun x=>decide (x=s))=xs.length:=List.findIdx_eq_length_of_false fun x hx=>by
  obtain⟨j,hj,rfl⟩:=kU hx
  have:=hb j hj;simpa using this
 unfold aS;rw [this,ai af]
theorem fW (xs:List ByteArray) (s:ByteArray):(∃(k:Nat) (hk:k<xs.length),aS xs s=k/\xs[k]=s/\∀j (_hj:j<k) (hjn:j<xs.length),xs[j]≠s)\/(aS xs s = -1/\∀j (hj:j<xs.length),xs[j]≠s):=by
 by_cases h:xs.findIdx (fun x=>decide (x=s))<xs.length
 ·have h2:=(List.findIdx_eq (p:=fun x=>decide (x=s)) h).1 rfl
  have h3:∀j (hj:j<xs.findIdx (fun x=>decide (x=s))) (hjn:j<xs.length),xs[j]≠s:=fun j hj hjn=>by have:=h2.2 j hj;simpa using this
  have h4:xs[xs.findIdx (fun x=>decide (x=s))]=s:=by simpa using h2.1
  exact .inl ⟨_,h,uo h h4 h3,h4,h3⟩
 ·refine .inr ?_
  have h3:∀j (hj:j<xs.length),xs[j]≠s:=fun j hj=>by
   have:=List.not_of_lt_findIdx (p:=fun x=>decide (x=s)) (xs:=xs) (i:=j) af
   simpa using this
  exact⟨zi h3,h3⟩
theorem jN.take {sa:Option Addr} {n sc i:Nat} (h:jN w (.slice sa n sc) xs) (hi:i<=xs.length):jN w (.slice sa i sc) (xs.take i):=by
 obtain⟨ao,cap,hv,h1,h2,h3,h4,h5⟩:=h
 injection hv with e1 e2 e3
 subst e1 e2 e3
 have hl:(xs.take i).length=i:=by rw [eP];omega
 refine⟨sa,sc,by rw [hl],af,h2,af,h4,fun h0=>?_⟩
 obtain⟨b,off,e,hb,hc⟩:=h5 af
 refine⟨b,off,e,hb,fun k x hx=>hc k x ?_⟩
 rw [qg]at hx
 split at hx
 ·exact hx
 ·cases hx
theorem mK {v:Value} (h:jN w v xs) :
  Calls Tryd.prog 41 #[v, .string s] w fun e w'=>e = .returned (.int .i64 (aS xs s))/\ah w w':=by
 obtain⟨ao,cap,rfl,a1,a2,a3,a4,a5⟩:=h
 go_enter Tryd.func41,Tryd.ntmps41
 go_wp2_with fail
 go_loopg [8] xs.length (fun g i wr=>∃k:Nat,k<=xs.length/\g=xs.length-k/\i = .int .i64 k/\Hid (∀j (hj:j<k) (hjn:j<xs.length),xs[j]≠s)/\ah w wr)
 case atStart=>exact⟨0,jd _,rfl,rfl,hdd (fun j hj=>af),aI _ _⟩
 case round=>
  obtain⟨k,hk,rfl,rfl,HN,hb⟩:=hrel
  by_cases hlt:k<xs.length
  ·obtain⟨ab,aV,rfl,sO,ac⟩:=a5 af
   have e0:=vL hb sO ac hlt
   obtain⟨y,hy⟩:=bt (xs[k])
   rw [hy]at e0
   have HY:=hdd hy
   have jS:=fun w'=>CA (ab:=ab) (aV:=aV) (n:=xs.length) (cap:=cap) (show (k:Int)=((k:Nat):Int) by rfl) hlt w'
   have K5:=Lv s y
   clear ac a5 hy
   by_cases GK:s=y
   ·have HP:=hdd (uo hlt (HY.out.trans GK.symm) HN.out)
    have We:decide (s=y)=true:=by simp [GK]
    rw [We]at K5
    clear GK We
    go_wp2
    go_ret
    rw [HP.out]
    exact⟨rfl,hb⟩
   ·have FH:=hdd (show ∀j (hj:j<k+1) (hjn:j<xs.length),xs[j]≠s from fun j hj hjn=>by
     by_cases hjk:j=k
     ·subst hjk;rw [HY.out];exact fun h=>GK h.symm
     ·exact HN.out j af hjn)
    have We:decide (s=y)=false:=by simp [GK]
    rw [We]at K5
    clear GK We
    go_wp2
    go_roundg (xs.length-(k+1))
    case measure=>omega
    case rel=>exact⟨k+1,af,rfl,by go_num,FH,hb⟩
  ·have HP:=hdd (zi (xs:=xs) (s:=s) fun j hj=>HN.out j af hj)
   go_wp2
   go_ret
   rw [HP.out]
   exact⟨rfl,hb⟩
theorem yh {v:Value} (h:jN w v xs) :
  Calls Tryd.prog 59 #[v, .string s] w fun e w'=>e = .returned (.bool (decide (0<=aS xs s)))/\ah w w':=by
 have HI:=hdd (mK (s:=s) h)
 obtain⟨p,hp⟩:=bt (aS xs s)
 rw [hp]at HI ⊢
 clear hp
 go_enter Tryd.func59,Tryd.ntmps59
 go_wp2_with ((go_at_call 41;(with_reducible refine HI.out.mono ?_);rintro e w2 ⟨rfl,hb2⟩))
 go_ret
 exact⟨rfl,hb2⟩
end
section
set_option maxRecDepth 100000
set_option maxHeartbeats 1000000
theorem Gd {v:Value} {b:Ba} {w:World} (h:bO w v b) :
  Calls Tryd.prog 60 #[v] w (Qp w.heap.size w (bY b)):=by
 obtain⟨sa,sc,g0,l0,p0,g1,l1,p1,g2,l2,p2,rfl,hn,_,T0,_,_⟩:=h.open
 obtain⟨W0,hW0⟩:=bP (w.alloc (.cells (aG sa b.names.length sc g0 l0 p0 g1 l1 p1 g2 l2 p2 b) 35))
 have hb0:ah w W0:=by rw [hW0];exact ag
 have hz0:W0.heap.size=w.heap.size+1:=by rw [hW0];simp
 have k0:W0.heap[w.heap.size]?=some (.cells (aG sa b.names.length sc g0 l0 p0 g1 l1 p1 g2 l2 p2 b) 35):=by rw [hW0];exact aj _ _ rfl
 have HX:=hdd fun w' (hb:ah W0 w')=>(by
  have b0:w'.heap[w.heap.size]?=_:=(hb.block _ af).trans k0
  simp [World.cell?,b0] :
  w'.cell? ⟨w.heap.size,0,none⟩=some (.slice sa b.names.length sc)/\w'.cell? ⟨w.heap.size,7,none⟩=some (.int .i64 b.floor))
 have HB:=hdd fun w' (hb:ah W0 w')=>(Below.trans' hb0 hb hb0.size:ah w w')
 have HA:=hdd ((iH (lo:=0) (hi:=1099511627776) (T0 W0 hb0)).mono fun e w' hp=>nZ.allT hp)
 obtain⟨c1,c2⟩:W0.cell? ⟨w.heap.size,1,none⟩=some (.slice g0 l0 p0)/\W0.cell? ⟨w.heap.size,2,none⟩=some (.int .i64 b.t0.root):=by simp [World.cell?,k0]
 clear T0
 go_enter Tryd.func60,Tryd.ntmps60
 go_upto_region 1 with (fail)
 rw [<-hW0]
 clear hW0 k0
 cases hT:allT b.t0 with
 |none=>
  have HN:=hdd (Kw hT)
  rw [hT]at HA
  clear hT
  go_wp2_with ((go_at_call 55;(with_reducible refine HA.out.mono ?_);rintro e w1 ⟨hb1,E,hE,rfl⟩;have cZ:=HB.out _ hb1))
  go_ret2
  rw [HN.out]
  exact⟨cZ,rfl⟩
 |some l=>
  have HT:=hdd hT
  have HG:=hdd (fB hT)
  have hlen:l.length<=50000:=(fB hT).2.2.2
  rw [hT]at HA
  clear hT
  go_upto_region 4 with ((go_at_call 55;(with_reducible refine HA.out.mono ?_);rintro e w1 ⟨hb1,v1,rfl,AW⟩;obtain⟨s1,d1,rfl⟩:=AW.isSlice))
  have HL:=hdd (AW.at af)
  have HO:=hdd AW
  have hz1:=hb1.size
  clear c1 c2 AW
  go_wp2_with fail
  go_loopg [20] l.length (fun g i wr=>∃k:Nat,k<=l.length/\g=l.length-k/\i = .int .i64 k/\Hid ((l.take k).all (jn b)=true)/\ah w1 wr)
  case atStart=>exact⟨0,jd _,rfl,rfl,hdd rfl,aI _ _⟩
  case round=>
   obtain⟨k,hk,rfl,rfl,HR,hb⟩:=hrel
   have hsz:=hb.size
   have Tt:ah W0 wr:=Below.trans' hb1 hb hz1
   obtain⟨x0,x7⟩:=HX.out _ Tt
   by_cases hlt:k<l.length
   ·obtain⟨_,_,hv,-,-,-,-,h5⟩:=HL.out
    injection hv with hv1 _ hv3
    subst hv3
    obtain⟨eb,eB,lA,si,nE⟩:=h5 af
    subst lA
    subst hv1
    obtain⟨y0,y1,y2,y3,y4,y5,y6⟩:=bU hb si nE hlt
    obtain⟨y,hy⟩:=bt (l[k])
    rw [hy]at y0 y1 y2 y3 y4 y5 y6
    have C7:y∈l:=by rw [<-hy];exact fP hlt
    obtain⟨im,hk1⟩:=HG.out.2.2.1 y C7
    have tS:=hdd fun(h:jn b y=false)=>NB HT.out hlt (by rw [hy];exact h)
    have Fs:=hdd fun(h:jn b y=true)=>(by rw [kK hlt,List.all_append,HR.out,hy];simp [h]:(l.take (k+1)).all (jn b)=true)
    obtain⟨M,hM⟩:=bt (y.key%1048576)
    obtain⟨Q,hQ⟩:=bt (y.key/1048576)
    have Lb:0<=M/\M<1048576:=af
    have Vc:0<=Q/\Q<1048576:=af
    have m1:y.key.tmod 1048576=M:=by rw [yj im];exact hM
    have m2:y.key.tdiv 1048576=Q:=by rw [Bf im];exact hQ
    have m3:IntKind.i64.wrap M=M:=IntWalk.i64_in _ af
    have m4:IntKind.i64.wrap Q=Q:=IntWalk.i64_in _ af
    have nA:=hdd (show jn b y=(decide (Q<b.names.length) && decide (b.floor<=M) && decide (y.is.t=M)) by simp [jn,hM,hQ])
    have jS:=fun w'=>dw (ab:=eb) (aV:=eB) (n:=l.length) (cap:=d1) (show (k:Int)=((k:Nat):Int) by rfl) hlt w'
    have hwz:eb<wr.heap.size:=af
    have YU:ah w wr:=HB.out _ Tt
    obtain⟨W1,hW1⟩:=bP (wr.alloc (.cells #[.int .i64 y.key, .int .i64 y.is.c, .int .i64 y.is.s, .int .i64 y.is.mi, .int .i64 y.is.ma, .int .i64 y.is.t, .int .i64 y.is.l] 96))
    have hb1:ah wr W1:=by rw [hW1];exact ag
    have k1:W1.heap[wr.heap.size]?=some (.cells #[.int .i64 y.key, .int .i64 y.is.c, .int .i64 y.is.s, .int .i64 y.is.mi, .int .i64 y.is.ma, .int .i64 y.is.t, .int .i64 y.is.l] 96):=by rw [hW1];exact aj _ _ rfl
    have vC:ah w1 W1:=Below.trans' hb hb1 hsz
    have agD:ah w W1:=Below.trans' YU hb1 YU.size
    obtain⟨z0,z7⟩:=HX.out _ (Below.trans' Tt hb1 Tt.size)
    obtain⟨q0,q5⟩:W1.cell? ⟨wr.heap.size,0,none⟩=some (.int .i64 y.key)/\W1.cell? ⟨wr.heap.size,5,none⟩=some (.int .i64 y.is.t):=by simp [World.cell?,k1]
    clear nE h5 hy C7 hM hQ Lb Vc Tt
    go_upto_region 7 with (fail)
    rw [<-hW1]
    clear hW1 k1 x0 x7 y0 y1 y2 y3 y4 y5 y6
    by_cases i1:Q<b.names.length
    ·have e1:decide ((b.names.length:Int)<=Q)=false:=by simp;omega
     by_cases i2:b.floor<=M
     ·have e2:decide (M<b.floor)=false:=by simp;omega
      by_cases i3:y.is.t=M
      ·have e3:(y.is.t != M)=false:=by simp [i3]
       have HGD:=hdd (Fs.out (by rw [nA.out];simp [i1,i2,i3]))
       clear i1 i2 i3 Fs tS nA
       go_wp2
       go_roundg (l.length-(k+1))
       case measure=>omega
       case rel=>exact⟨k+1,af,rfl,by go_num,HGD,ag⟩
      ·have e3:(y.is.t != M)=true:=by simp [i3]
       have FJ:=hdd (tS.out (by rw [nA.out];simp [i3]))
       clear i1 i2 i3 Fs tS nA
       go_wp2
       go_ret2
       rw [FJ.out]
       exact⟨ag,rfl⟩
     ·have e2:decide (M<b.floor)=true:=by simp;omega
      have FJ:=hdd (tS.out (by rw [nA.out];simp [i2]))
      clear i1 i2 Fs tS nA
      go_wp2
      go_ret2
      rw [FJ.out]
      exact⟨ag,rfl⟩
    ·have e1:decide ((b.names.length:Int)<=Q)=true:=by simp;omega
     have FJ:=hdd (tS.out (by rw [nA.out];simp [i1]))
     clear i1 Fs tS nA
     go_wp2
     go_ret2
     rw [FJ.out]
     exact⟨ag,rfl⟩
   ·have HN:=hdd (uW HT.out (by have:=HR.out;rw [lI af]at this;exact this))
    have YU:ah w wr:=HB.out _ Tt
    have ho:=(HO.out.below hb aH).mono (show w.heap.size<=W0.heap.size by omega)
    clear Tt
    go_wp2
    go_ret2
    rw [HN.out]
    exact⟨YU,_,rfl,ho⟩
end
end Go.Proofs.YtmljjfhgciaceaaDoor
namespace Go.Proofs.YtmljjfhgciaceaaDoor
section
variable {b:Ba} {a z:Int} {l:List aC}
theorem qV {p:Int->Bool} (l:List aC) (k:Int):look (l.filter fun e=>p e.key) k=if p k=true then look l k else aw.zero:=by
 induction l with
 |nil=>simp [look]
 |cons e l ih=>
  by_cases h:p e.key=true
  ·rw [rG (by simpa using h)]
   simp only [look]
   by_cases hk:e.key=k
   ·rw [ar hk,ar hk,ih]
    subst hk
    rw [ar h,ar h]
   ·rw [ai hk,ai hk,ih]
  ·rw [qB (by simpa using h),ih]
   simp only [look]
   by_cases hk:e.key=k
   ·subst hk;rw [ai h,ai h]
   ·rw [ai hk]
theorem AJ (h:aT l) (p:aC->Bool):aT (l.filter p):=List.Pairwise.sublist List.filter_sublist h
theorem kD (h:bh l) (p:aC->Bool):bh (l.filter p):=fun e he=>h e (mn.1 he).1
theorem rC {es:List aC} (hl:Checked l) (h:fe l=some es) (p:Int->Bool):fe (l.filter fun e=>p e.key)=some (es.filter fun e=>p e.key):=by
 obtain⟨h1,h2,_,_,h5⟩:=fR hl h
 have hs:Small (l.filter fun e=>p e.key):=fun k=>by
  rw [qV]
  split
  ·exact h2 k
  ·decide
 rw [jC (iT hl),ar hs]
 congr 1
 refine qW (dV (kD hl.bQ _)) (AJ h5 _) (fA (kD hl.bQ _)) (kD (by rw [h1];exact fA hl.bQ) _) fun k=>?_
 rw [fY (kD hl.bQ _),qV,qV,h1,fY hl.bQ]
theorem Fb {t:Tr} {m:List aC} (h:allT t=some m) (lo hi:Int):ax t=0/\kI t lo hi=some (m.filter (aR lo hi)):=by
 unfold allT at h
 split at h
 ·rename_i hf
  refine⟨hf,?_⟩
  obtain⟨_,hv⟩:=cS hf
  unfold kI at *
  have hall:t.all.filter (aR 0 1099511627776)=t.all:=List.filter_eq_self.2 fun e he=>by
   have:=lT hv e he
   simp [aR];omega
  rw [hall]at h
  exact rC (cz hv) h fun k=>decide (lo<=k) && decide (k<hi)
 ·cases h
theorem iV (h:aO b=true):∃l,bY b=some l/\aT l/\dX l/\∀k,k<3->∃m,bW l (aQ k)=some m/\allT (b.tree k)=some m:=by
 obtain⟨l,hl,ht⟩:=(dH h).trees
 refine⟨l,hl,(gw hl).1,(gw hl).2,fun k hk=>?_⟩
 have:=ht k hk
 unfold fE at this
 cases h1:bW l (aQ k) with
 |none=>rw [h1]at this;cases this
 |some a=>
  cases h2:allT (b.tree k) with
  |none=>rw [h1,h2]at this;cases this
  |some c=>
   rw [h1,h2]at this
   have Fz:a=c:=by simpa using this
   exact⟨a,rfl,by rw [Fz]⟩
noncomputable def bV (b:Ba) (s:ByteArray):Int:=if aO b=true then(if aS b.names s<0 then 6 else 0)else 7
def xA (p a z:Int) (e:aC):Bool:=decide (e.key/1048576=p) && inR (e.key%1048576) a z
def rowOf (e:aC):aC:=⟨e.key%1048576,e.is⟩
def cT (a z:Int):Prop:=0<=a/\a<=z/\z<=1048575
instance (a z:Int):Decidable (cT a z):=by unfold cT;infer_instance
noncomputable def sJ (b:Ba) (s:ByteArray) (size a z:Int):List aC:=
 match bY b with|none=>[]|some l=>match bW l size with|none=>[]|some m=>(m.filter (xA (aS b.names s) a z)).map rowOf
noncomputable def eQ (b:Ba) (s:ByteArray) (size a z:Int):Int:=
 if bV b s≠0 then bV b s else if size≠1/\size≠60/\size≠3600 then 3 else if ¬cT a z then 2 else if 500<(sJ b s size a z).length then 1 else 0
noncomputable def nR (b:Ba) (s:ByteArray) (size a z:Int):List aC:=if eQ b s size a z=0 then sJ b s size a z else []
theorem Cz {p:Int} (h:cT a z) (e:aC):xA p a z e=aR (p*1048576+a) (p*1048576+z+1) e:=by
 obtain⟨h1,h2,h3⟩:=h
 unfold xA aR inR
 rw [Bool.eq_iff_iff]
 simp only [Bool.and_eq_true,yi]
 omega
theorem oq (b:Ba) (s:ByteArray):(bV b s=7/\aO b=false)\/(bV b s=6/\aO b=true/\aS b.names s = -1)\/(bV b s=0/\aO b=true/\∃k:Nat,k<16/\aS b.names s=k):=by
 unfold bV
 cases h:aO b with
 |false=>exact .inl ⟨bj,rfl⟩
 |true=>
  rcases fW b.names s with ⟨k,hk,e,_⟩|⟨e,_⟩
  ·have:=(dH h).n16
   exact .inr (.inr ⟨by simp only [if_true];rw [ai af],rfl,k,af,e⟩)
  ·exact .inr (.inl ⟨by simp only [if_true];rw [ar af],rfl,e⟩)
theorem Dq {s:ByteArray} {k:Nat} (h:aO b=true) (hk:k<3) (hr:cT a z) :
  ∃m,sJ b s (aQ k) a z=(m.filter (aR (aS b.names s*1048576+a) (aS b.names s*1048576+z+1))).map rowOf/\ax (b.tree k)=0 /\
   kI (b.tree k) (aS b.names s*1048576+a) (aS b.names s*1048576+z+1)=some (m.filter (aR (aS b.names s*1048576+a) (aS b.names s*1048576+z+1)))/\aT m/\dX m:=by
 obtain⟨l,hl,_,hg,ht⟩:=iV h
 obtain⟨m,h1,h2⟩:=ht k hk
 obtain⟨h3,h4⟩:=Fb h2 (aS b.names s*1048576+a) (aS b.names s*1048576+z+1)
 refine⟨m,?_,h3,h4,(fB h2).1,(fB h2).2⟩
 unfold sJ
 rw [hl]
 simp only
 rw [h1]
 simp only
 congr 1
 exact List.filter_congr fun e _=>Cz hr e
end
open Go.RowKit
section
set_option maxRecDepth 100000
variable {es:List aC} {B C:Nat} {w w':World}
theorem Tryd.Z6:(Tryd.prog.info? 52).map (fun i=>(i.zero.map (fun z=>z.cells.size),i.size,i.bytes))=some (some 7,7,56):=bT
theorem Tryd.aeI:Tryd.prog.underlying 52=some (.struct (Tryd.prog.fieldsOf 52)):=bT
theorem Tryd.afs:Tryd.prog.stoodInHeld 52=false:=bT
structure OwnRows (B:Nat) (w:World) (v:Value) (es:List aC):Prop where
 row:w.ownsRow B 52 7 v es.length (es.flatMap aZ)
theorem OwnRows.nil (B:Nat) (w:World):OwnRows B w (.slice none 0 0) []:=⟨World.ownsRow_nil _ _ _ _⟩
theorem OwnRows.alloc {v:Value} (h:OwnRows B w v es) (o:Obj):OwnRows B (w.alloc o) v es:=⟨World.ownsRow.alloc h.row o⟩
theorem OwnRows.block {v:Value} (h:OwnRows B w v es) (hb:∀g,v.ownBlock=some g->w'.heap[g]?=w.heap[g]?):OwnRows B w' v es:=by
 obtain⟨hl,⟨rfl,h0⟩|⟨g,cap,cur,rfl,hB,hg,h1,h2,h3,h4⟩⟩:=h.row
 ·exact⟨⟨hl, .inl ⟨rfl,h0⟩⟩⟩
 ·exact⟨⟨hl, .inr ⟨g,cap,cur,rfl,hB,(hb g rfl).trans hg,h1,h2,h3,h4⟩⟩⟩
theorem OwnRows.drew {v:Value} (h:OwnRows B w v es):OwnRows B w.drew v es:=h.block fun _ _=>rfl
theorem OwnRows.drewN {v:Value} (h:OwnRows B w v es) (n:Nat):OwnRows B (w.drewN n) v es:=h.block fun _ _=>rfl
theorem OwnRows.lt {v:Value} (h:OwnRows B w v es):∀g,v.ownBlock=some g->B<=g/\g<w.heap.size:=World.ownsRow.lt h.row
theorem OwnRows.below {v:Value} (h:OwnRows B w v es) (hb:Below C w w') (hC:w.heap.size<=C):OwnRows B w' v es:=h.block fun g hg=>hb.block g (by have:=(h.lt g hg).2;omega)
theorem OwnRows.mono {v:Value} (h:OwnRows B w v es) (hC:C<=B):OwnRows C w v es:=by
 obtain⟨hl,⟨rfl,h0⟩|⟨g,cap,cur,rfl,hB,hg,h1,h2,h3,h4⟩⟩:=h.row
 ·exact⟨⟨hl, .inl ⟨rfl,h0⟩⟩⟩
 ·exact⟨⟨hl, .inr ⟨g,cap,cur,rfl,af,hg,h1,h2,h3,h4⟩⟩⟩
theorem OwnRows.at {v:Value} (h:OwnRows B w v es) (hs:es.length<=1000000):fu w v es:=dK.owned cX h.row rfl af
theorem OwnRows.isSlice {v:Value} (h:OwnRows B w v es):∃ao cap,v = .slice ao es.length cap:=by
 obtain⟨hl,⟨rfl,h0⟩|⟨g,cap,cur,rfl,_⟩⟩:=h.row
 ·exact⟨none,0,by rw [h0]⟩
 ·exact⟨_,_,rfl⟩
theorem tZ {ops:Array Oper} {rest:List Oper} {o:Oper} {a:Act} {Q:Exit->Act->World->Prop} (hgd:o.guard=none) (s x:Operand)
  (ho:o.op = .call { callee:= .builtin .append,args:=#[s,x],argTypes:=#[43,43] }) (B:Nat) (v:Value) (es:List aC) (hs:a.eval s=v) (hown:OwnRows B w v es)
  (ad:Addr) (e:aC) (hx:a.eval x = .slice (some ad) 1 1) (hnews:∀j u,(aZ e)[j]?=some u->w.cell? (ad.add j)=some u) (hlen:es.length<=1000000) (hbase:B<=w.heap.size)
  (h:∀v' w',OwnRows B w' v' (es++[e])->(∀C W,Below C W w->C<=B->Below C W w')->wpList Tryd.prog ops Q rest (a.put o.dst v') w'):wpList Tryd.prog ops Q (o::rest) a w:=by
 obtain⟨i0,z,hi,hz,hz1,hz2,hz3⟩:=cj Tryd.Z6
 refine wpList_append_own w hgd s x 43 ho B 52 i0 z 7 56 Tryd.underlying43 hi hz hz1 hz2 hz3 aW v es.length _ hs hown.row ad 1 1 (aZ e) hx rfl hnews (jc [e] |> fun h u hu=>h u (by simpa using hu)) (by unfold maxLen;omega) af hbase ?_
 intro v' w' hown' hg _
 refine h v' w' ?_ fun C W hb hC=>Below.grown hb hg af (fun j hj=>by have:=(hown.lt j hj).1;omega)
 have:(es++[e]).flatMap aZ=es.flatMap aZ++aZ e:=bj
 refine⟨?_⟩
 rw [this,dO]
 exact hown'
theorem abA (d:Nat) (e f:aC) (w:World):(Op.equalIn (d+3) 52 (.agg #[.int .i64 e.key, .int .i64 e.is.c, .int .i64 e.is.s, .int .i64 e.is.mi, .int .i64 e.is.ma, .int .i64 e.is.t, .int .i64 e.is.l]) (.agg #[.int .i64 f.key, .int .i64 f.is.c, .int .i64 f.is.s, .int .i64 f.is.mi, .int .i64 f.is.ma, .int .i64 f.is.t, .int .i64 f.is.l])).run Tryd.prog w = .ok (decide (e=f)) w:=by
 have u3:=Tryd.underlying3
 have hr:=fun w=>vP d e.is f.is w
 rw [run_equalIn_struct w (d+2) 52 _ _ Tryd.aeI Tryd.afs]
 simp only [Program.fieldsOf,Tryd.underlying52]
 go_simp
 obtain⟨e0,e1⟩:=e
 obtain⟨f0,f1⟩:=f
 simp only [aC.mk.injEq]
 by_cases h0:e0=f0
 ·by_cases h1:e1=f1 <;> simp [h0,h1]
 ·simp [h0]
theorem aco (e f:aC) (w:World):(binOp .neq 52 (.agg #[.int .i64 e.key, .int .i64 e.is.c, .int .i64 e.is.s, .int .i64 e.is.mi, .int .i64 e.is.ma, .int .i64 e.is.t, .int .i64 e.is.l]) (.agg #[.int .i64 f.key, .int .i64 f.is.c, .int .i64 f.is.s, .int .i64 f.is.mi, .int .i64 f.is.ma, .int .i64 f.is.t, .int .i64 f.is.l])).run Tryd.prog w = .ok (.bool (!decide (e=f))) w:=by
 rw [run_neq_struct,abA 9997];rfl
end
end Go.Proofs.YtmljjfhgciaceaaDoor
