/- Texts of mine that come as one: StrIx Points RowsP RowsM. -/
import Derived.Test.YtmljjfhgciaceaaGreatDoorHd
import Derived.Test.YtmljjfhgciaceaaGreatDoorSX
import Derived.Test.YtmljjfhgciaceaaGreatDoorBK
import Derived.Test.YtmljjfhgciaceaaGreatDoorAW
import Derived.Test.YtmljjfhgciaceaaGreatDoorKG
namespace Go.Proofs.YtmljjfhgciaceaaGreatDoor
open Go.RowKit
section
set_option maxRecDepth 100000
set_option maxHeartbeats 1000000
variable {s:ByteArray} {xs:List ByteArray} {w:World}
theorem iB {va vb:Value} {xs ys:List aA} (ha:ft w va xs) (hb:ft w vb ys) :
  Calls Tryz.prog 104 #[va,vb] w fun e w'=>e = .returned (.bool (decide (xs=ys)))/\ah w w':=by
 obtain⟨ao,ca,rfl,a1,a2,a3,a4,a5⟩:=ha
 obtain⟨bo,cb,rfl,b1,b2,b3,b4,b5⟩:=hb
 by_cases hl:xs.length=ys.length
 ·have hl':((xs.length:Int) != (ys.length:Int))=false:=by simp [hl]
  have HL:=hdd hl
  clear hl
  go_enter Tryz.func104,Tryz.ntmps104
  go_wp2_with fail
  go_loopg [13] xs.length (fun g i wr=>∃k:Nat,k<=xs.length/\g=xs.length-k/\i = .int .i64 k/\Hid (xs.take k=ys.take k)/\ah w wr)
  case atStart=>exact⟨0,jf _,rfl,rfl,hdd bt,aL _ _⟩
  case round=>
   obtain⟨k,hk,rfl,rfl,HE,dh⟩:=hrel
   by_cases hlt:k<xs.length
   ·obtain⟨ab,bp,rfl,xD,ac⟩:=a5 af
    obtain⟨bb,aho,rfl,bbb,bc⟩:=b5 (by have:=HL.out;omega)
    have jK:k<ys.length:=by have:=HL.out;omega
    obtain⟨c0,c1,c2,c3,c4,c5,c6⟩:=bT dh xD ac hlt
    obtain⟨d0,d1,d2,d3,d4,d5,d6⟩:=bT dh bbb bc jK
    clear ac bc a5 b5
    obtain⟨e,he⟩:=bC (xs[k])
    obtain⟨f,hf⟩:=bC (ys[k])
    rw [he]at c0 c1 c2 c3 c4 c5 c6
    rw [hf]at d0 d1 d2 d3 d4 d5 d6
    have EE:=hdd he
    have FF:=hdd hf
    clear he hf
    have hne:=C7 e f
    by_cases Rg:e=f
    ·have abk:(decide (e=f))=true:=by simp [Rg]
     have UN:=hdd Rg
     clear Rg
     go_wp2
     go_quiet (fail)
     go_wp2
     go_roundg (xs.length-(k+1))
     case measure=>omega
     case rel=>exact⟨k+1,af,rfl,by go_num,hdd (BQ HE.out hlt jK (by rw [EE.out,FF.out,UN.out])),(by repeat (first|exact aL _ _|assumption|refine cC ?_ _|refine Below.drew ?_|refine Below.alloc ?_ (by simp <;> omega) _|refine Below.setCell ?_ (by simp <;> omega) _))⟩
    ·have abk:(decide (e=f))=false:=by simp [Rg]
     have hxy:decide (xs=ys)=false:=by simpa using JH hlt jK (by rw [EE.out,FF.out];exact Rg)
     clear Rg
     go_wp2
     go_quiet (fail)
     go_wp2
     go_ret
     exact⟨dB hxy.symm,(by repeat (first|exact aL _ _|assumption|refine cC ?_ _|refine Below.drew ?_|refine Below.alloc ?_ (by simp <;> omega) _|refine Below.setCell ?_ (by simp <;> omega) _))⟩
   ·have hxy:decide (xs=ys)=true:=by
     have h1:=HE.out
     have h2:=HL.out
     rw [kI af,kI af]at h1
     simpa using h1
    go_wp2
    go_ret
    exact⟨dB hxy.symm,(by repeat (first|exact aL _ _|assumption|refine cC ?_ _|refine Below.drew ?_|refine Below.alloc ?_ (by simp <;> omega) _|refine Below.setCell ?_ (by simp <;> omega) _))⟩
 ·have hl':((xs.length:Int) != (ys.length:Int))=true:=by simp;omega
  have hxy:decide (xs=ys)=false:=by simp;intro h;subst h;exact hl rfl
  clear hl
  go_enter Tryz.func104,Tryz.ntmps104
  go_wp2_with fail
  go_ret
  exact⟨dB hxy.symm,(by repeat (first|exact aL _ _|assumption|refine cC ?_ _|refine Below.drew ?_|refine Below.alloc ?_ (by simp <;> omega) _|refine Below.setCell ?_ (by simp <;> omega) _))⟩
def aG (xs:List ByteArray) (s:ByteArray):Int:=if xs.findIdx (fun x=>decide (x=s))<xs.length then((xs.findIdx fun x=>decide (x=s):Nat):Int)else -1
theorem ur {k:Nat} (hk:k<xs.length) (h:xs[k]=s) (hb:∀j (_hj:j<k) (hjn:j<xs.length),xs[j]≠s):aG xs s=k:=by
 have:xs.findIdx (fun x=>decide (x=s))=k:=(List.findIdx_eq hk).2 ⟨by simp [h],fun j hj=>by have:=hb j hj af;simpa using this⟩
 unfold aG;rw [this,ar hk]
theorem yP (hb:∀j (hj:j<xs.length),xs[j]≠s):aG xs s = -1:=by
 have:xs.findIdx (fun x=>decide (x=s))=xs.length:=List.findIdx_eq_length_of_false fun x hx=>by
  obtain⟨j,hj,rfl⟩:=kS hx
  have:=hb j hj;simpa using this
 unfold aG;rw [this,ai af]
theorem eY (xs:List ByteArray) (s:ByteArray):(∃(k:Nat) (hk:k<xs.length),aG xs s=k/\xs[k]=s/\∀j (_hj:j<k) (hjn:j<xs.length),xs[j]≠s)\/(aG xs s = -1/\∀j (hj:j<xs.length),xs[j]≠s):=by
 by_cases h:xs.findIdx (fun x=>decide (x=s))<xs.length
 ·have h2:=(List.findIdx_eq (p:=fun x=>decide (x=s)) h).1 rfl
  have h3:∀j (hj:j<xs.findIdx (fun x=>decide (x=s))) (hjn:j<xs.length),xs[j]≠s:=fun j hj hjn=>by have:=h2.2 j hj;simpa using this
  have h4:xs[xs.findIdx (fun x=>decide (x=s))]=s:=by simpa using h2.1
  exact .inl ⟨_,h,ur h h4 h3,h4,h3⟩
 ·refine .inr ?_
  have h3:∀j (hj:j<xs.length),xs[j]≠s:=fun j hj=>by
   have:=List.not_of_lt_findIdx (p:=fun x=>decide (x=s)) (xs:=xs) (i:=j) af
   simpa using this
  exact⟨yP h3,h3⟩
theorem jO.take {sa:Option Addr} {n sc i:Nat} (h:jO w (.slice sa n sc) xs) (hi:i<=xs.length):jO w (.slice sa i sc) (xs.take i):=by
 obtain⟨ao,cap,hv,h1,h2,h3,h4,h5⟩:=h
 injection hv with e1 e2 e3
 subst e1 e2 e3
 have hl:(xs.take i).length=i:=by rw [fx];omega
 refine⟨sa,sc,by rw [hl],af,h2,af,h4,fun h0=>?_⟩
 obtain⟨b,off,e,hb,hc⟩:=h5 af
 refine⟨b,off,e,hb,fun k x hx=>hc k x ?_⟩
 rw [qE]at hx
 split at hx
 ·exact hx
 ·cases hx
theorem mN {v:Value} (h:jO w v xs) :
  Calls Tryz.prog 69 #[v, .string s] w fun e w'=>e = .returned (.int .i64 (aG xs s))/\ah w w':=by
 obtain⟨ao,cap,rfl,a1,a2,a3,a4,a5⟩:=h
 go_enter Tryz.func69,Tryz.ntmps69
 go_wp2_with fail
 go_loopg [8] xs.length (fun g i wr=>∃k:Nat,k<=xs.length/\g=xs.length-k/\i = .int .i64 k/\Hid (∀j (hj:j<k) (hjn:j<xs.length),xs[j]≠s)/\ah w wr)
 case atStart=>exact⟨0,jf _,rfl,rfl,hdd (fun j hj=>af),aL _ _⟩
 case round=>
  obtain⟨k,hk,rfl,rfl,HN,hb⟩:=hrel
  by_cases hlt:k<xs.length
  ·obtain⟨ab,bp,rfl,xD,ac⟩:=a5 af
   have e0:=vI hb xD ac hlt
   obtain⟨y,hy⟩:=bC (xs[k])
   rw [hy]at e0
   have HY:=hdd hy
   have lA:=fun w'=>Ch (ab:=ab) (bp:=bp) (n:=xs.length) (cap:=cap) (show (k:Int)=((k:Nat):Int) by rfl) hlt w'
   have KV:=Lh s y
   clear ac a5 hy
   by_cases Gv:s=y
   ·have HP:=hdd (ur hlt (HY.out.trans Gv.symm) HN.out)
    have Ws:decide (s=y)=true:=by simp [Gv]
    rw [Ws]at KV
    clear Gv Ws
    go_wp2
    go_ret
    rw [HP.out]
    exact⟨rfl,hb⟩
   ·have Fi:=hdd (show ∀j (hj:j<k+1) (hjn:j<xs.length),xs[j]≠s from fun j hj hjn=>by
     by_cases hjk:j=k
     ·subst hjk;rw [HY.out];exact fun h=>Gv h.symm
     ·exact HN.out j af hjn)
    have Ws:decide (s=y)=false:=by simp [Gv]
    rw [Ws]at KV
    clear Gv Ws
    go_wp2
    go_roundg (xs.length-(k+1))
    case measure=>omega
    case rel=>exact⟨k+1,af,rfl,by go_num,Fi,hb⟩
  ·have HP:=hdd (yP (xs:=xs) (s:=s) fun j hj=>HN.out j af hj)
   go_wp2
   go_ret
   rw [HP.out]
   exact⟨rfl,hb⟩
theorem xO {v:Value} (h:jO w v xs) :
  Calls Tryz.prog 101 #[v, .string s] w fun e w'=>e = .returned (.bool (decide (0<=aG xs s)))/\ah w w':=by
 have HI:=hdd (mN (s:=s) h)
 obtain⟨p,hp⟩:=bC (aG xs s)
 rw [hp]at HI ⊢
 clear hp
 go_enter Tryz.func101,Tryz.ntmps101
 go_wp2_with ((go_at_call 69;(with_reducible refine HI.out.mono ?_);rintro e w2 ⟨rfl,hb2⟩))
 go_ret
 exact⟨rfl,hb2⟩
end
section
set_option maxRecDepth 100000
set_option maxHeartbeats 1000000
theorem FU {v:Value} {b:Ba} {w:World} (h:bQ w v b) :
  Calls Tryz.prog 102 #[v] w (Qv w.heap.size w (bX b)):=by
 obtain⟨sa,sc,g0,l0,p0,g1,l1,p1,g2,l2,p2,rfl,hn,_,T0,_,_⟩:=h.open
 obtain⟨W0,hW0⟩:=bR (w.alloc (.cells (aJ sa b.names.length sc g0 l0 p0 g1 l1 p1 g2 l2 p2 b) 30))
 have hb0:ah w W0:=by rw [hW0];exact ag
 have hz0:W0.heap.size=w.heap.size+1:=by rw [hW0];simp
 have k0:W0.heap[w.heap.size]?=some (.cells (aJ sa b.names.length sc g0 l0 p0 g1 l1 p1 g2 l2 p2 b) 30):=by rw [hW0];exact aq _ _ rfl
 have HX:=hdd fun w' (hb:ah W0 w')=>(by
  have b0:w'.heap[w.heap.size]?=_:=(hb.block _ af).trans k0
  simp [World.cell?,b0] :
  w'.cell? ⟨w.heap.size,0,none⟩=some (.slice sa b.names.length sc)/\w'.cell? ⟨w.heap.size,7,none⟩=some (.int .i64 b.floor))
 have HB:=hdd fun w' (hb:ah W0 w')=>(Below.trans' hb0 hb hb0.size:ah w w')
 have HA:=hdd ((iJ (lo:=0) (hi:=1099511627776) (T0 W0 hb0)).mono fun e w' hp=>nX.allT hp)
 obtain⟨c1,c2⟩:W0.cell? ⟨w.heap.size,1,none⟩=some (.slice g0 l0 p0)/\W0.cell? ⟨w.heap.size,2,none⟩=some (.int .i64 b.t0.root):=by simp [World.cell?,k0]
 clear T0
 go_enter Tryz.func102,Tryz.ntmps102
 go_upto_region 1 with (fail)
 rw [<-hW0]
 clear hW0 k0
 cases hT:allT b.t0 with
 |none=>
  have HN:=hdd (Kq hT)
  rw [hT]at HA
  clear hT
  go_wp2_with ((go_at_call 74;(with_reducible refine HA.out.mono ?_);rintro e w1 ⟨hb1,E,hE,rfl⟩;have dh:=HB.out _ hb1))
  go_ret2
  rw [HN.out]
  exact⟨dh,rfl⟩
 |some l=>
  have HT:=hdd hT
  have HG:=hdd (fJ hT)
  have hlen:l.length<=50000:=(fJ hT).2.2.2
  rw [hT]at HA
  clear hT
  go_upto_region 4 with ((go_at_call 74;(with_reducible refine HA.out.mono ?_);rintro e w1 ⟨hb1,v1,rfl,Az⟩;obtain⟨s1,d1,rfl⟩:=Az.isSlice))
  have HL:=hdd (Az.at af)
  have HO:=hdd Az
  have hz1:=hb1.size
  clear c1 c2 Az
  go_wp2_with fail
  go_loopg [20] l.length (fun g i wr=>∃k:Nat,k<=l.length/\g=l.length-k/\i = .int .i64 k/\Hid ((l.take k).all (jm b)=true)/\ah w1 wr)
  case atStart=>exact⟨0,jf _,rfl,rfl,hdd rfl,aL _ _⟩
  case round=>
   obtain⟨k,hk,rfl,rfl,HR,hb⟩:=hrel
   have hsz:=hb.size
   have TF:ah W0 wr:=Below.trans' hb1 hb hz1
   obtain⟨x0,x7⟩:=HX.out _ TF
   by_cases hlt:k<l.length
   ·obtain⟨_,_,hv,-,-,-,-,h5⟩:=HL.out
    injection hv with hv1 _ hv3
    subst hv3
    obtain⟨eb,aH,lQ,r8,nD⟩:=h5 af
    subst lQ
    subst hv1
    obtain⟨y0,y1,y2,y3,y4,y5,y6⟩:=bT hb r8 nD hlt
    obtain⟨y,hy⟩:=bC (l[k])
    rw [hy]at y0 y1 y2 y3 y4 y5 y6
    have CN:y∈l:=by rw [<-hy];exact gj hlt
    obtain⟨ie,hk1⟩:=HG.out.2.2.1 y CN
    have tR:=hdd fun(h:jm b y=false)=>NB HT.out hlt (by rw [hy];exact h)
    have E6:=hdd fun(h:jm b y=true)=>(by rw [mf hlt,List.all_append,HR.out,hy];simp [h]:(l.take (k+1)).all (jm b)=true)
    obtain⟨M,hM⟩:=bC (y.key%1048576)
    obtain⟨Q,hQ⟩:=bC (y.key/1048576)
    have K3:0<=M/\M<1048576:=af
    have Vl:0<=Q/\Q<1048576:=af
    have m1:y.key.tmod 1048576=M:=by rw [xR ie];exact hM
    have m2:y.key.tdiv 1048576=Q:=by rw [AO ie];exact hQ
    have m3:IntKind.i64.wrap M=M:=IntWalk.i64_in _ af
    have m4:IntKind.i64.wrap Q=Q:=IntWalk.i64_in _ af
    have pB:=hdd (show jm b y=(decide (Q<b.names.length) && decide (b.floor<=M) && decide (y.is.t=M)) by simp [jm,hM,hQ])
    have lA:=fun w'=>dC (ab:=eb) (bp:=aH) (n:=l.length) (cap:=d1) (show (k:Int)=((k:Nat):Int) by rfl) hlt w'
    have hwz:eb<wr.heap.size:=af
    have Y3:ah w wr:=HB.out _ TF
    obtain⟨W1,hW1⟩:=bR (wr.alloc (.cells #[.int .i64 y.key, .int .i64 y.is.c, .int .i64 y.is.s, .int .i64 y.is.mi, .int .i64 y.is.ma, .int .i64 y.is.t, .int .i64 y.is.l] 107))
    have hb1:ah wr W1:=by rw [hW1];exact ag
    have k1:W1.heap[wr.heap.size]?=some (.cells #[.int .i64 y.key, .int .i64 y.is.c, .int .i64 y.is.s, .int .i64 y.is.mi, .int .i64 y.is.ma, .int .i64 y.is.t, .int .i64 y.is.l] 107):=by rw [hW1];exact aq _ _ rfl
    have vC:ah w1 W1:=Below.trans' hb hb1 hsz
    have agL:ah w W1:=Below.trans' Y3 hb1 Y3.size
    obtain⟨z0,z7⟩:=HX.out _ (Below.trans' TF hb1 TF.size)
    obtain⟨q0,q5⟩:W1.cell? ⟨wr.heap.size,0,none⟩=some (.int .i64 y.key)/\W1.cell? ⟨wr.heap.size,5,none⟩=some (.int .i64 y.is.t):=by simp [World.cell?,k1]
    clear nD h5 hy CN hM hQ K3 Vl TF
    go_upto_region 7 with (fail)
    rw [<-hW1]
    clear hW1 k1 x0 x7 y0 y1 y2 y3 y4 y5 y6
    by_cases i1:Q<b.names.length
    ·have e1:decide ((b.names.length:Int)<=Q)=false:=by simp;omega
     by_cases i2:b.floor<=M
     ·have e2:decide (M<b.floor)=false:=by simp;omega
      by_cases i3:y.is.t=M
      ·have e3:(y.is.t != M)=false:=by simp [i3]
       have HGD:=hdd (E6.out (by rw [pB.out];simp [i1,i2,i3]))
       clear i1 i2 i3 E6 tR pB
       go_wp2
       go_roundg (l.length-(k+1))
       case measure=>omega
       case rel=>exact⟨k+1,af,rfl,by go_num,HGD,ag⟩
      ·have e3:(y.is.t != M)=true:=by simp [i3]
       have Fm:=hdd (tR.out (by rw [pB.out];simp [i3]))
       clear i1 i2 i3 E6 tR pB
       go_wp2
       go_ret2
       rw [Fm.out]
       exact⟨ag,rfl⟩
     ·have e2:decide (M<b.floor)=true:=by simp;omega
      have Fm:=hdd (tR.out (by rw [pB.out];simp [i2]))
      clear i1 i2 E6 tR pB
      go_wp2
      go_ret2
      rw [Fm.out]
      exact⟨ag,rfl⟩
    ·have e1:decide ((b.names.length:Int)<=Q)=true:=by simp;omega
     have Fm:=hdd (tR.out (by rw [pB.out];simp [i1]))
     clear i1 E6 tR pB
     go_wp2
     go_ret2
     rw [Fm.out]
     exact⟨ag,rfl⟩
   ·have HN:=hdd (uZ HT.out (by have:=HR.out;rw [kI af]at this;exact this))
    have Y3:ah w wr:=HB.out _ TF
    have ho:=(HO.out.below hb aI).mono (show w.heap.size<=W0.heap.size by omega)
    clear TF
    go_wp2
    go_ret2
    rw [HN.out]
    exact⟨Y3,_,rfl,ho⟩
end
end Go.Proofs.YtmljjfhgciaceaaGreatDoor
namespace Go.Proofs.YtmljjfhgciaceaaGreatDoor
section
variable {b:Ba} {a z:Int} {l:List aA}
theorem lY {p:Int->Bool} (l:List aA) (k:Int):look (l.filter fun e=>p e.key) k=if p k=true then look l k else av.zero:=by
 induction l with
 |nil=>simp [look]
 |cons e l ih=>
  by_cases h:p e.key=true
  ·rw [tP (by simpa using h)]
   simp only [look]
   by_cases hk:e.key=k
   ·rw [ar hk,ar hk,ih]
    subst hk
    rw [ar h,ar h]
   ·rw [ai hk,ai hk,ih]
  ·rw [sH (by simpa using h),ih]
   simp only [look]
   by_cases hk:e.key=k
   ·subst hk;rw [ai h,ai h]
   ·rw [ai hk]
theorem Ao (h:aX l) (p:aA->Bool):aX (l.filter p):=List.Pairwise.sublist List.filter_sublist h
theorem ku (h:aW l) (p:aA->Bool):aW (l.filter p):=fun e he=>h e (ju.1 he).1
theorem rB {es:List aA} (hl:Checked l) (h:fo l=some es) (p:Int->Bool):fo (l.filter fun e=>p e.key)=some (es.filter fun e=>p e.key):=by
 obtain⟨h1,h2,_,_,h5⟩:=fT hl h
 have hs:Small (l.filter fun e=>p e.key):=fun k=>by
  rw [lY]
  split
  ·exact h2 k
  ·decide
 rw [jD (iU hl),ar hs]
 congr 1
 refine oY (di (ku hl.bP _)) (Ao h5 _) (eK (ku hl.bP _)) (ku (by rw [h1];exact eK hl.bP) _) fun k=>?_
 rw [fu (ku hl.bP _),lY,lY,h1,fu hl.bP]
theorem ET {t:Tr} {m:List aA} (h:allT t=some m) (lo hi:Int):ax t=0/\kG t lo hi=some (m.filter (aT lo hi)):=by
 unfold allT at h
 split at h
 ·rename_i hf
  refine⟨hf,?_⟩
  obtain⟨_,hv⟩:=cW hf
  unfold kG at *
  have hall:t.all.filter (aT 0 1099511627776)=t.all:=List.filter_eq_self.2 fun e he=>by
   have:=lT hv e he
   simp [aT];omega
  rw [hall]at h
  exact rB (cF hv) h fun k=>decide (lo<=k) && decide (k<hi)
 ·cases h
theorem iW (h:aR b=true):∃l,bX b=some l/\aX l/\dY l/\∀k,k<3->∃m,bV l (aS k)=some m/\allT (b.tree k)=some m:=by
 obtain⟨l,hl,ht⟩:=(dK h).trees
 refine⟨l,hl,(gw hl).1,(gw hl).2,fun k hk=>?_⟩
 have:=ht k hk
 unfold fL at this
 cases h1:bV l (aS k) with
 |none=>rw [h1]at this;cases this
 |some a=>
  cases h2:allT (b.tree k) with
  |none=>rw [h1,h2]at this;cases this
  |some c=>
   rw [h1,h2]at this
   have Fb:a=c:=by simpa using this
   exact⟨a,rfl,by rw [Fb]⟩
noncomputable def bU (b:Ba) (s:ByteArray):Int:=if aR b=true then(if aG b.names s<0 then 6 else 0)else 7
def uD (p a z:Int) (e:aA):Bool:=decide (e.key/1048576=p) && inR (e.key%1048576) a z
def rowOf (e:aA):aA:=⟨e.key%1048576,e.is⟩
def cO (a z:Int):Prop:=0<=a/\a<=z/\z<=1048575
instance (a z:Int):Decidable (cO a z):=by unfold cO;infer_instance
noncomputable def sL (b:Ba) (s:ByteArray) (size a z:Int):List aA:=
 match bX b with|none=>[]|some l=>match bV l size with|none=>[]|some m=>(m.filter (uD (aG b.names s) a z)).map rowOf
noncomputable def eX (b:Ba) (s:ByteArray) (size a z:Int):Int:=
 if bU b s≠0 then bU b s else if size≠1/\size≠60/\size≠3600 then 3 else if ¬cO a z then 2 else if 500<(sL b s size a z).length then 1 else 0
noncomputable def nM (b:Ba) (s:ByteArray) (size a z:Int):List aA:=if eX b s size a z=0 then sL b s size a z else []
theorem Cg {p:Int} (h:cO a z) (e:aA):uD p a z e=aT (p*1048576+a) (p*1048576+z+1) e:=by
 obtain⟨h1,h2,h3⟩:=h
 unfold uD aT inR
 rw [Bool.eq_iff_iff]
 simp only [Bool.and_eq_true,wI]
 omega
theorem od (b:Ba) (s:ByteArray):(bU b s=7/\aR b=false)\/(bU b s=6/\aR b=true/\aG b.names s = -1)\/(bU b s=0/\aR b=true/\∃k:Nat,k<16/\aG b.names s=k):=by
 unfold bU
 cases h:aR b with
 |false=>exact .inl ⟨bt,rfl⟩
 |true=>
  rcases eY b.names s with ⟨k,hk,e,_⟩|⟨e,_⟩
  ·have:=(dK h).n16
   exact .inr (.inr ⟨by simp only [if_true];rw [ai af],rfl,k,af,e⟩)
  ·exact .inr (.inl ⟨by simp only [if_true];rw [ar af],rfl,e⟩)
theorem Da {s:ByteArray} {k:Nat} (h:aR b=true) (hk:k<3) (hr:cO a z) :
  ∃m,sL b s (aS k) a z=(m.filter (aT (aG b.names s*1048576+a) (aG b.names s*1048576+z+1))).map rowOf/\ax (b.tree k)=0 /\
   kG (b.tree k) (aG b.names s*1048576+a) (aG b.names s*1048576+z+1)=some (m.filter (aT (aG b.names s*1048576+a) (aG b.names s*1048576+z+1)))/\aX m/\dY m:=by
 obtain⟨l,hl,_,hg,ht⟩:=iW h
 obtain⟨m,h1,h2⟩:=ht k hk
 obtain⟨h3,h4⟩:=ET h2 (aG b.names s*1048576+a) (aG b.names s*1048576+z+1)
 refine⟨m,?_,h3,h4,(fJ h2).1,(fJ h2).2⟩
 unfold sL
 rw [hl]
 simp only
 rw [h1]
 simp only
 congr 1
 exact List.filter_congr fun e _=>Cg hr e
end
open Go.RowKit
section
variable {es:List aA} {B C:Nat} {w w':World}
theorem Tryz.aa7:(Tryz.prog.info? 77).map (fun i=>(i.zero.map (fun z=>z.cells.size),i.size,i.bytes))=some (some 7,7,56):=cv
structure OwnRows (B:Nat) (w:World) (v:Value) (es:List aA):Prop where
 row:w.ownsRow B 77 7 v es.length (es.flatMap bh)
theorem OwnRows.nil (B:Nat) (w:World):OwnRows B w (.slice none 0 0) []:=⟨World.ownsRow_nil _ _ _ _⟩
theorem OwnRows.alloc {v:Value} (h:OwnRows B w v es) (o:Obj):OwnRows B (w.alloc o) v es:=⟨World.ownsRow.alloc h.row o⟩
theorem OwnRows.block {v:Value} (h:OwnRows B w v es) (hb:∀g,v.ownBlock=some g->w'.heap[g]?=w.heap[g]?):OwnRows B w' v es:=by
 obtain⟨hl,⟨rfl,h0⟩|⟨g,cap,cur,rfl,hB,hg,h1,h2,h3,h4⟩⟩:=h.row
 ·exact⟨⟨hl, .inl ⟨rfl,h0⟩⟩⟩
 ·exact⟨⟨hl, .inr ⟨g,cap,cur,rfl,hB,(hb g rfl).trans hg,h1,h2,h3,h4⟩⟩⟩
theorem OwnRows.drew {v:Value} (h:OwnRows B w v es):OwnRows B w.drew v es:=h.block fun _ _=>rfl
theorem OwnRows.drewN {v:Value} (h:OwnRows B w v es) (n:Nat):OwnRows B (w.drewN n) v es:=h.block fun _ _=>rfl
theorem OwnRows.lt {v:Value} (h:OwnRows B w v es):∀g,v.ownBlock=some g->B<=g/\g<w.heap.size:=World.ownsRow.lt h.row
theorem OwnRows.below {v:Value} (h:OwnRows B w v es) (hb:Below C w w') (hC:w.heap.size<=C):OwnRows B w' v es:=h.block fun g hg=>hb.block g (by have:=(h.lt g hg).2;omega)
theorem OwnRows.mono {v:Value} (h:OwnRows B w v es) (hC:C<=B):OwnRows C w v es:=by
 obtain⟨hl,⟨rfl,h0⟩|⟨g,cap,cur,rfl,hB,hg,h1,h2,h3,h4⟩⟩:=h.row
 ·exact⟨⟨hl, .inl ⟨rfl,h0⟩⟩⟩
 ·exact⟨⟨hl, .inr ⟨g,cap,cur,rfl,af,hg,h1,h2,h3,h4⟩⟩⟩
theorem OwnRows.at {v:Value} (h:OwnRows B w v es) (hs:es.length<=1000000):ft w v es:=dN.owned dg h.row rfl af
theorem OwnRows.isSlice {v:Value} (h:OwnRows B w v es):∃ao cap,v = .slice ao es.length cap:=by
 obtain⟨hl,⟨rfl,h0⟩|⟨g,cap,cur,rfl,_⟩⟩:=h.row
 ·exact⟨none,0,by rw [h0]⟩
 ·exact⟨_,_,rfl⟩
theorem ub {ops:Array Oper} {rest:List Oper} {o:Oper} {a:Act} {Q:Exit->Act->World->Prop} (hgd:o.guard=none) (s x:Operand)
  (ho:o.op = .call { callee:= .builtin .append,args:=#[s,x],argTypes:=#[40,40] }) (B:Nat) (v:Value) (es:List aA) (hs:a.eval s=v) (hown:OwnRows B w v es)
  (ad:Addr) (e:aA) (hx:a.eval x = .slice (some ad) 1 1) (hnews:∀j u,(bh e)[j]?=some u->w.cell? (ad.add j)=some u) (hlen:es.length<=1000000) (hbase:B<=w.heap.size)
  (h:∀v' w',OwnRows B w' v' (es++[e])->(∀C W,Below C W w->C<=B->Below C W w')->wpList Tryz.prog ops Q rest (a.put o.dst v') w'):wpList Tryz.prog ops Q (o::rest) a w:=by
 obtain⟨i0,z,hi,hz,hz1,hz2,hz3⟩:=cG Tryz.aa7
 refine wpList_append_own w hgd s x 40 ho B 77 i0 z 7 56 Tryz.underlying40 hi hz hz1 hz2 hz3 aY v es.length _ hs hown.row ad 1 1 (bh e) hx rfl hnews (je [e] |> fun h u hu=>h u (by simpa using hu)) (by unfold maxLen;omega) af hbase ?_
 intro v' w' hown' hg _
 refine h v' w' ?_ fun C W hb hC=>Below.grown hb hg af (fun j hj=>by have:=(hown.lt j hj).1;omega)
 have:(es++[e]).flatMap bh=es.flatMap bh++bh e:=bt
 refine⟨?_⟩
 rw [this,eO]
 exact hown'
end
end Go.Proofs.YtmljjfhgciaceaaGreatDoor
