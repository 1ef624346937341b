/- Texts of mine that come as one: StrIx Points RowsP. -/
import Derived.Test.YtmljjfhgciaceaaDoorHd
import Derived.Test.YtmljjfhgciaceaaDoorSX
import Derived.Test.YtmljjfhgciaceaaDoorBK
import Derived.Test.YtmljjfhgciaceaaDoorAW
namespace Go.Proofs.YtmljjfhgciaceaaDoor
open Go.RowKit
section
set_option maxRecDepth 100000
set_option maxHeartbeats 1000000
variable {s:ByteArray} {xs:List ByteArray} {w:World}
theorem iC {va vb:Value} {xs ys:List aC} (ha:fu w va xs) (hb:fu w vb ys) :
  Calls Tryd.prog 62 #[va,vb] w fun e w'=>e = .returned (.bool (decide (xs=ys)))/\ah w w':=by
 obtain⟨ao,ca,rfl,a1,a2,a3,a4,a5⟩:=ha
 obtain⟨bo,cb,rfl,b1,b2,b3,b4,b5⟩:=hb
 by_cases hl:xs.length=ys.length
 ·have hl':((xs.length:Int) != (ys.length:Int))=false:=by simp [hl]
  have HL:=hdd hl
  clear hl
  go_enter Tryd.func62,Tryd.ntmps62
  go_wp2_with fail
  go_loopg [13] xs.length (fun g i wr=>∃k:Nat,k<=xs.length/\g=xs.length-k/\i = .int .i64 k/\Hid (xs.take k=ys.take k)/\ah w wr)
  case atStart=>exact⟨0,jd _,rfl,rfl,hdd bj,aI _ _⟩
  case round=>
   obtain⟨k,hk,rfl,rfl,HE,cZ⟩:=hrel
   by_cases hlt:k<xs.length
   ·obtain⟨ab,aV,rfl,sO,ac⟩:=a5 af
    obtain⟨bb,ahh,rfl,ub,bc⟩:=b5 (by have:=HL.out;omega)
    have jJ:k<ys.length:=by have:=HL.out;omega
    obtain⟨c0,c1,c2,c3,c4,c5,c6⟩:=bU cZ sO ac hlt
    obtain⟨d0,d1,d2,d3,d4,d5,d6⟩:=bU cZ ub bc jJ
    clear ac bc a5 b5
    obtain⟨e,he⟩:=bt (xs[k])
    obtain⟨f,hf⟩:=bt (ys[k])
    rw [he]at c0 c1 c2 c3 c4 c5 c6
    rw [hf]at d0 d1 d2 d3 d4 d5 d6
    have EE:=hdd he
    have FF:=hdd hf
    clear he hf
    have hne:=Dn e f
    by_cases Re:e=f
    ·have ab6:(decide (e=f))=true:=by simp [Re]
     have UG:=hdd Re
     clear Re
     go_wp2
     go_quiet (fail)
     go_wp2
     go_roundg (xs.length-(k+1))
     case measure=>omega
     case rel=>exact⟨k+1,af,rfl,by go_num,hdd (Ck HE.out hlt jJ (by rw [EE.out,FF.out,UG.out])),(by repeat (first|exact aI _ _|assumption|refine cJ ?_ _|refine Below.drew ?_|refine Below.alloc ?_ (by simp <;> omega) _|refine Below.setCell ?_ (by simp <;> omega) _))⟩
    ·have ab6:(decide (e=f))=false:=by simp [Re]
     have hxy:decide (xs=ys)=false:=by simpa using JM hlt jJ (by rw [EE.out,FF.out];exact Re)
     clear Re
     go_wp2
     go_quiet (fail)
     go_wp2
     go_ret
     exact⟨dP hxy.symm,(by repeat (first|exact aI _ _|assumption|refine cJ ?_ _|refine Below.drew ?_|refine Below.alloc ?_ (by simp <;> omega) _|refine Below.setCell ?_ (by simp <;> omega) _))⟩
   ·have hxy:decide (xs=ys)=true:=by
     have h1:=HE.out
     have h2:=HL.out
     rw [lI af,lI af]at h1
     simpa using h1
    go_wp2
    go_ret
    exact⟨dP hxy.symm,(by repeat (first|exact aI _ _|assumption|refine cJ ?_ _|refine Below.drew ?_|refine Below.alloc ?_ (by simp <;> omega) _|refine Below.setCell ?_ (by simp <;> omega) _))⟩
 ·have hl':((xs.length:Int) != (ys.length:Int))=true:=by simp;omega
  have hxy:decide (xs=ys)=false:=by simp;intro h;subst h;exact hl rfl
  clear hl
  go_enter Tryd.func62,Tryd.ntmps62
  go_wp2_with fail
  go_ret
  exact⟨dP hxy.symm,(by repeat (first|exact aI _ _|assumption|refine cJ ?_ _|refine Below.drew ?_|refine Below.alloc ?_ (by simp <;> omega) _|refine Below.setCell ?_ (by simp <;> omega) _))⟩
def aS (xs:List ByteArray) (s:ByteArray):Int:=if xs.findIdx (fun x=>decide (x=s))<xs.length then((xs.findIdx fun x=>decide (x=s):Nat):Int)else -1
theorem uo {k:Nat} (hk:k<xs.length) (h:xs[k]=s) (hb:∀j (_hj:j<k) (hjn:j<xs.length),xs[j]≠s):aS xs s=k:=by
 have:xs.findIdx (fun x=>decide (x=s))=k:=(List.findIdx_eq hk).2 ⟨by simp [h],fun j hj=>by have:=hb j hj af;simpa using this⟩
 unfold aS;rw [this,ar hk]
theorem zi (hb:∀j (hj:j<xs.length),xs[j]≠s):aS xs s = -1:=by
 have:xs.findIdx (fun x=>decide (x=s))=xs.length:=List.findIdx_eq_length_of_false fun x hx=>by
  obtain⟨j,hj,rfl⟩:=adU hx
  have:=hb j hj;simpa using this
 unfold aS;rw [this,ai af]
theorem fW (xs:List ByteArray) (s:ByteArray):(∃(k:Nat) (hk:k<xs.length),aS xs s=k/\xs[k]=s/\∀j (_hj:j<k) (hjn:j<xs.length),xs[j]≠s)\/(aS xs s = -1/\∀j (hj:j<xs.length),xs[j]≠s):=by
 by_cases h:xs.findIdx (fun x=>decide (x=s))<xs.length
 ·have h2:=(List.findIdx_eq (p:=fun x=>decide (x=s)) h).1 rfl
  have h3:∀j (hj:j<xs.findIdx (fun x=>decide (x=s))) (hjn:j<xs.length),xs[j]≠s:=fun j hj hjn=>by have:=h2.2 j hj;simpa using this
  have h4:xs[xs.findIdx (fun x=>decide (x=s))]=s:=by simpa using h2.1
  exact .inl ⟨_,h,uo h h4 h3,h4,h3⟩
 ·refine .inr ?_
  have h3:∀j (hj:j<xs.length),xs[j]≠s:=fun j hj=>by
   have:=List.not_of_lt_findIdx (p:=fun x=>decide (x=s)) (xs:=xs) (i:=j) af
   simpa using this
  exact⟨zi h3,h3⟩
theorem jN.take {sa:Option Addr} {n sc i:Nat} (h:jN w (.slice sa n sc) xs) (hi:i<=xs.length):jN w (.slice sa i sc) (xs.take i):=by
 obtain⟨ao,cap,hv,h1,h2,h3,h4,h5⟩:=h
 injection hv with e1 e2 e3
 subst e1 e2 e3
 have hl:(xs.take i).length=i:=by rw [eP];omega
 refine⟨sa,sc,by rw [hl],af,h2,af,h4,fun h0=>?_⟩
 obtain⟨b,off,e,hb,hc⟩:=h5 af
 refine⟨b,off,e,hb,fun k x hx=>hc k x ?_⟩
 rw [qg]at hx
 split at hx
 ·exact hx
 ·cases hx
theorem mK {v:Value} (h:jN w v xs) :
  Calls Tryd.prog 41 #[v, .string s] w fun e w'=>e = .returned (.int .i64 (aS xs s))/\ah w w':=by
 obtain⟨ao,cap,rfl,a1,a2,a3,a4,a5⟩:=h
 go_enter Tryd.func41,Tryd.ntmps41
 go_wp2_with fail
 go_loopg [8] xs.length (fun g i wr=>∃k:Nat,k<=xs.length/\g=xs.length-k/\i = .int .i64 k/\Hid (∀j (hj:j<k) (hjn:j<xs.length),xs[j]≠s)/\ah w wr)
 case atStart=>exact⟨0,jd _,rfl,rfl,hdd (fun j hj=>af),aI _ _⟩
 case round=>
  obtain⟨k,hk,rfl,rfl,HN,hb⟩:=hrel
  by_cases hlt:k<xs.length
  ·obtain⟨ab,aV,rfl,sO,ac⟩:=a5 af
   have e0:=vL hb sO ac hlt
   obtain⟨y,hy⟩:=bt (xs[k])
   rw [hy]at e0
   have HY:=hdd hy
   have jS:=fun w'=>CA (ab:=ab) (aV:=aV) (n:=xs.length) (cap:=cap) (show (k:Int)=((k:Nat):Int) by rfl) hlt w'
   have K5:=Lv s y
   clear ac a5 hy
   by_cases GK:s=y
   ·have HP:=hdd (uo hlt (HY.out.trans GK.symm) HN.out)
    have We:decide (s=y)=true:=by simp [GK]
    rw [We]at K5
    clear GK We
    go_wp2
    go_ret
    rw [HP.out]
    exact⟨rfl,hb⟩
   ·have FH:=hdd (show ∀j (hj:j<k+1) (hjn:j<xs.length),xs[j]≠s from fun j hj hjn=>by
     by_cases hjk:j=k
     ·subst hjk;rw [HY.out];exact fun h=>GK h.symm
     ·exact HN.out j af hjn)
    have We:decide (s=y)=false:=by simp [GK]
    rw [We]at K5
    clear GK We
    go_wp2
    go_roundg (xs.length-(k+1))
    case measure=>omega
    case rel=>exact⟨k+1,af,rfl,by go_num,FH,hb⟩
  ·have HP:=hdd (zi (xs:=xs) (s:=s) fun j hj=>HN.out j af hj)
   go_wp2
   go_ret
   rw [HP.out]
   exact⟨rfl,hb⟩
theorem yh {v:Value} (h:jN w v xs) :
  Calls Tryd.prog 59 #[v, .string s] w fun e w'=>e = .returned (.bool (decide (0<=aS xs s)))/\ah w w':=by
 have HI:=hdd (mK (s:=s) h)
 obtain⟨p,hp⟩:=bt (aS xs s)
 rw [hp]at HI ⊢
 clear hp
 go_enter Tryd.func59,Tryd.ntmps59
 go_wp2_with ((go_at_call 41;(with_reducible refine HI.out.mono ?_);rintro e w2 ⟨rfl,hb2⟩))
 go_ret
 exact⟨rfl,hb2⟩
end
section
set_option maxRecDepth 100000
set_option maxHeartbeats 1000000
theorem Gd {v:Value} {b:Ba} {w:World} (h:bO w v b) :
  Calls Tryd.prog 60 #[v] w (Qp w.heap.size w (bY b)):=by
 obtain⟨sa,sc,g0,l0,p0,g1,l1,p1,g2,l2,p2,rfl,hn,_,T0,_,_⟩:=h.open
 obtain⟨W0,hW0⟩:=bP (w.alloc (.cells (aG sa b.names.length sc g0 l0 p0 g1 l1 p1 g2 l2 p2 b) 35))
 have hb0:ah w W0:=by rw [hW0];exact ag
 have hz0:W0.heap.size=w.heap.size+1:=by rw [hW0];simp
 have k0:W0.heap[w.heap.size]?=some (.cells (aG sa b.names.length sc g0 l0 p0 g1 l1 p1 g2 l2 p2 b) 35):=by rw [hW0];exact aj _ _ rfl
 have HX:=hdd fun w' (hb:ah W0 w')=>(by
  have b0:w'.heap[w.heap.size]?=_:=(hb.block _ af).trans k0
  simp [World.cell?,b0] :
  w'.cell? ⟨w.heap.size,0,none⟩=some (.slice sa b.names.length sc)/\w'.cell? ⟨w.heap.size,7,none⟩=some (.int .i64 b.floor))
 have HB:=hdd fun w' (hb:ah W0 w')=>(Below.trans' hb0 hb hb0.size:ah w w')
 have HA:=hdd ((iH (lo:=0) (hi:=1099511627776) (T0 W0 hb0)).mono fun e w' hp=>nZ.allT hp)
 obtain⟨c1,c2⟩:W0.cell? ⟨w.heap.size,1,none⟩=some (.slice g0 l0 p0)/\W0.cell? ⟨w.heap.size,2,none⟩=some (.int .i64 b.t0.root):=by simp [World.cell?,k0]
 clear T0
 go_enter Tryd.func60,Tryd.ntmps60
 go_upto_region 1 with (fail)
 rw [<-hW0]
 clear hW0 k0
 cases hT:allT b.t0 with
 |none=>
  have HN:=hdd (Kw hT)
  rw [hT]at HA
  clear hT
  go_wp2_with ((go_at_call 55;(with_reducible refine HA.out.mono ?_);rintro e w1 ⟨hb1,E,hE,rfl⟩;have cZ:=HB.out _ hb1))
  go_ret2
  rw [HN.out]
  exact⟨cZ,rfl⟩
 |some l=>
  have HT:=hdd hT
  have HG:=hdd (fB hT)
  have hlen:l.length<=50000:=(fB hT).2.2.2
  rw [hT]at HA
  clear hT
  go_upto_region 4 with ((go_at_call 55;(with_reducible refine HA.out.mono ?_);rintro e w1 ⟨hb1,v1,rfl,AW⟩;obtain⟨s1,d1,rfl⟩:=AW.isSlice))
  have HL:=hdd (AW.at af)
  have HO:=hdd AW
  have hz1:=hb1.size
  clear c1 c2 AW
  go_wp2_with fail
  go_loopg [20] l.length (fun g i wr=>∃k:Nat,k<=l.length/\g=l.length-k/\i = .int .i64 k/\Hid ((l.take k).all (jn b)=true)/\ah w1 wr)
  case atStart=>exact⟨0,jd _,rfl,rfl,hdd rfl,aI _ _⟩
  case round=>
   obtain⟨k,hk,rfl,rfl,HR,hb⟩:=hrel
   have hsz:=hb.size
   have Tt:ah W0 wr:=Below.trans' hb1 hb hz1
   obtain⟨x0,x7⟩:=HX.out _ Tt
   by_cases hlt:k<l.length
   ·obtain⟨_,_,hv,-,-,-,-,h5⟩:=HL.out
    injection hv with hv1 _ hv3
    subst hv3
    obtain⟨eb,eB,lA,si,nE⟩:=h5 af
    subst lA
    subst hv1
    obtain⟨y0,y1,y2,y3,y4,y5,y6⟩:=bU hb si nE hlt
    obtain⟨y,hy⟩:=bt (l[k])
    rw [hy]at y0 y1 y2 y3 y4 y5 y6
    have C7:y∈l:=by rw [<-hy];exact fP hlt
    obtain⟨im,hk1⟩:=HG.out.2.2.1 y C7
    have tS:=hdd fun(h:jn b y=false)=>NB HT.out hlt (by rw [hy];exact h)
    have Fs:=hdd fun(h:jn b y=true)=>(by rw [kK hlt,List.all_append,HR.out,hy];simp [h]:(l.take (k+1)).all (jn b)=true)
    obtain⟨M,hM⟩:=bt (y.key%1048576)
    obtain⟨Q,hQ⟩:=bt (y.key/1048576)
    have Lb:0<=M/\M<1048576:=af
    have Vc:0<=Q/\Q<1048576:=af
    have m1:y.key.tmod 1048576=M:=by rw [yj im];exact hM
    have m2:y.key.tdiv 1048576=Q:=by rw [Bf im];exact hQ
    have m3:IntKind.i64.wrap M=M:=IntWalk.i64_in _ af
    have m4:IntKind.i64.wrap Q=Q:=IntWalk.i64_in _ af
    have nA:=hdd (show jn b y=(decide (Q<b.names.length) && decide (b.floor<=M) && decide (y.is.t=M)) by simp [jn,hM,hQ])
    have jS:=fun w'=>dw (ab:=eb) (aV:=eB) (n:=l.length) (cap:=d1) (show (k:Int)=((k:Nat):Int) by rfl) hlt w'
    have hwz:eb<wr.heap.size:=af
    have YU:ah w wr:=HB.out _ Tt
    obtain⟨W1,hW1⟩:=bP (wr.alloc (.cells #[.int .i64 y.key, .int .i64 y.is.c, .int .i64 y.is.s, .int .i64 y.is.mi, .int .i64 y.is.ma, .int .i64 y.is.t, .int .i64 y.is.l] 96))
    have hb1:ah wr W1:=by rw [hW1];exact ag
    have k1:W1.heap[wr.heap.size]?=some (.cells #[.int .i64 y.key, .int .i64 y.is.c, .int .i64 y.is.s, .int .i64 y.is.mi, .int .i64 y.is.ma, .int .i64 y.is.t, .int .i64 y.is.l] 96):=by rw [hW1];exact aj _ _ rfl
    have vC:ah w1 W1:=Below.trans' hb hb1 hsz
    have agD:ah w W1:=Below.trans' YU hb1 YU.size
    obtain⟨z0,z7⟩:=HX.out _ (Below.trans' Tt hb1 Tt.size)
    obtain⟨q0,q5⟩:W1.cell? ⟨wr.heap.size,0,none⟩=some (.int .i64 y.key)/\W1.cell? ⟨wr.heap.size,5,none⟩=some (.int .i64 y.is.t):=by simp [World.cell?,k1]
    clear nE h5 hy C7 hM hQ Lb Vc Tt
    go_upto_region 7 with (fail)
    rw [<-hW1]
    clear hW1 k1 x0 x7 y0 y1 y2 y3 y4 y5 y6
    by_cases i1:Q<b.names.length
    ·have e1:decide ((b.names.length:Int)<=Q)=false:=by simp;omega
     by_cases i2:b.floor<=M
     ·have e2:decide (M<b.floor)=false:=by simp;omega
      by_cases i3:y.is.t=M
      ·have e3:(y.is.t != M)=false:=by simp [i3]
       have HGD:=hdd (Fs.out (by rw [nA.out];simp [i1,i2,i3]))
       clear i1 i2 i3 Fs tS nA
       go_wp2
       go_roundg (l.length-(k+1))
       case measure=>omega
       case rel=>exact⟨k+1,af,rfl,by go_num,HGD,ag⟩
      ·have e3:(y.is.t != M)=true:=by simp [i3]
       have FJ:=hdd (tS.out (by rw [nA.out];simp [i3]))
       clear i1 i2 i3 Fs tS nA
       go_wp2
       go_ret2
       rw [FJ.out]
       exact⟨ag,rfl⟩
     ·have e2:decide (M<b.floor)=true:=by simp;omega
      have FJ:=hdd (tS.out (by rw [nA.out];simp [i2]))
      clear i1 i2 Fs tS nA
      go_wp2
      go_ret2
      rw [FJ.out]
      exact⟨ag,rfl⟩
    ·have e1:decide ((b.names.length:Int)<=Q)=true:=by simp;omega
     have FJ:=hdd (tS.out (by rw [nA.out];simp [i1]))
     clear i1 Fs tS nA
     go_wp2
     go_ret2
     rw [FJ.out]
     exact⟨ag,rfl⟩
   ·have HN:=hdd (uW HT.out (by have:=HR.out;rw [lI af]at this;exact this))
    have YU:ah w wr:=HB.out _ Tt
    have ho:=(HO.out.below hb aH).mono (show w.heap.size<=W0.heap.size by omega)
    clear Tt
    go_wp2
    go_ret2
    rw [HN.out]
    exact⟨YU,_,rfl,ho⟩
end
end Go.Proofs.YtmljjfhgciaceaaDoor
namespace Go.Proofs.YtmljjfhgciaceaaDoor
theorem iV {b:Ba} (h:aO b=true):∃l,bY b=some l/\aT l/\dX l/\∀k,k<3->∃m,bW l (aQ k)=some m/\allT (b.tree k)=some m:=by
 obtain⟨l,hl,ht⟩:=(dH h).trees
 refine⟨l,hl,(gw hl).1,(gw hl).2,fun k hk=>?_⟩
 have:=ht k hk
 unfold fE at this
 cases h1:bW l (aQ k) with
 |none=>rw [h1]at this;cases this
 |some a=>
  cases h2:allT (b.tree k) with
  |none=>rw [h1,h2]at this;cases this
  |some c=>
   rw [h1,h2]at this
   have Fz:a=c:=by simpa using this
   exact⟨a,rfl,by rw [Fz]⟩
def cT (a z:Int):Prop:=0<=a/\a<=z/\z<=1048575
instance (a z:Int):Decidable (cT a z):=by unfold cT;infer_instance
end Go.Proofs.YtmljjfhgciaceaaDoor
