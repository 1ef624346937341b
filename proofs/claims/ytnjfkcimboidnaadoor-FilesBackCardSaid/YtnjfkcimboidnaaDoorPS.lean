/- Texts of mine that come as one: StrIx Points RowsP RowsM. -/
import Derived.Test.YtnjfkcimboidnaaDoorSX
import Derived.Test.YtnjfkcimboidnaaDoorBK
import Derived.Test.YtnjfkcimboidnaaDoorAW
import Derived.Test.YtnjfkcimboidnaaDoorKG
/- The walks of slices.Equal on entries, of slices.Index and slices.Contains on strings. -/
namespace Go.Proofs.YtnjfkcimboidnaaDoor
open Go.RowKit
set_option maxHeartbeats 1000000 in
theorem equalEnts_any {va vb:Value} {xs ys:List Ent} {w:World} (ha:EntsAt w va xs) (hb:EntsAt w vb ys) :
  Calls Tryd.prog 57 #[va,vb] w fun e w'=>e = .returned (.bool (decide (xs=ys)))∧Below w.heap.size w w':=by
 obtain⟨ao,ca,rfl,a1,a2,a3,a4,a5⟩:=ha
 obtain⟨bo,cb,rfl,b1,b2,b3,b4,b5⟩:=hb
 by_cases hl:xs.length=ys.length
 ·have hl':((xs.length:Int) != (ys.length:Int))=false:=by simp [hl]
  have HL:=Lib.hid hl
  clear hl
  go_enter Tryd.func57,Tryd.ntmps57
  go_wp2_with fail
  go_loopg [13] xs.length (fun g i wr=>∃k:Nat,k≤xs.length∧g=xs.length-k∧i = .int .i64 k∧Hid (xs.take k=ys.take k)∧Below w.heap.size w wr)
  case atStart=>exact⟨0,Nat.zero_le _,rfl,rfl,Lib.hid (by simp),Below.refl _ _⟩
  case round=>
   obtain⟨k,hk,rfl,rfl,HE,hbw⟩:=hrel
   by_cases hlt:k<xs.length
   ·obtain⟨ab,aoff,rfl,abb,ac⟩:=a5 (by omega)
    obtain⟨bb,boff,rfl,bbb,bc⟩:=b5 (by have:=HL.out;omega)
    have hlt2:k<ys.length:=by have:=HL.out;omega
    obtain⟨c0,c1,c2,c3,c4,c5,c6⟩:=ent_cells hbw abb ac hlt
    obtain⟨d0,d1,d2,d3,d4,d5,d6⟩:=ent_cells hbw bbb bc hlt2
    clear ac bc a5 b5
    obtain⟨e,he⟩:∃e,xs[k]=e:=⟨_,rfl⟩
    obtain⟨f,hf⟩:∃f,ys[k]=f:=⟨_,rfl⟩
    rw [he]at c0 c1 c2 c3 c4 c5 c6
    rw [hf]at d0 d1 d2 d3 d4 d5 d6
    have EE:=Lib.hid he
    have FF:=Lib.hid hf
    clear he hf
    have hne:=run_neq_ent e f
    by_cases hef:e=f
    ·have hef':(decide (e=f))=true:=by simp [hef]
     have HEF:=Lib.hid hef
     clear hef
     go_wp2
     go_quiet (fail)
     go_wp2
     go_roundg (xs.length-(k+1))
     case measure=>omega
     case rel=>exact⟨k+1,by omega,rfl,by go_num,Lib.hid (take_eq_step HE.out hlt hlt2 (by rw [EE.out,FF.out,HEF.out])),(by repeat (first|exact Below.refl _ _|assumption|refine below_dn ?_ _|refine Below.drew ?_|refine Below.alloc ?_ (by simp <;> omega) _|refine Below.setCell ?_ (by simp <;> omega) _))⟩
    ·have hef':(decide (e=f))=false:=by simp [hef]
     have hxy:decide (xs=ys)=false:=by simpa using ne_of_get hlt hlt2 (by rw [EE.out,FF.out];exact hef)
     clear hef
     go_wp2
     go_quiet (fail)
     go_wp2
     go_ret
     exact⟨ret_bool hxy.symm,(by repeat (first|exact Below.refl _ _|assumption|refine below_dn ?_ _|refine Below.drew ?_|refine Below.alloc ?_ (by simp <;> omega) _|refine Below.setCell ?_ (by simp <;> omega) _))⟩
   ·have hxy:decide (xs=ys)=true:=by
     have h1:=HE.out
     have h2:=HL.out
     rw [List.take_of_length_le (by omega),List.take_of_length_le (by omega)]at h1
     simpa using h1
    go_wp2
    go_ret
    exact⟨ret_bool hxy.symm,(by repeat (first|exact Below.refl _ _|assumption|refine below_dn ?_ _|refine Below.drew ?_|refine Below.alloc ?_ (by simp <;> omega) _|refine Below.setCell ?_ (by simp <;> omega) _))⟩
 ·have hl':((xs.length:Int) != (ys.length:Int))=true:=by simp;omega
  have hxy:decide (xs=ys)=false:=by simp;intro h;subst h;exact hl rfl
  clear hl
  go_enter Tryd.func57,Tryd.ntmps57
  go_wp2_with fail
  go_ret
  exact⟨ret_bool hxy.symm,(by repeat (first|exact Below.refl _ _|assumption|refine below_dn ?_ _|refine Below.drew ?_|refine Below.alloc ?_ (by simp <;> omega) _|refine Below.setCell ?_ (by simp <;> omega) _))⟩
def placeI (xs:List ByteArray) (s:ByteArray):Int:=if xs.findIdx (fun x=>decide (x=s))<xs.length then((xs.findIdx fun x=>decide (x=s):Nat):Int)else -1
theorem place_at {xs:List ByteArray} {s:ByteArray} {k:Nat} (hk:k<xs.length) (h:xs[k]=s) (hb:∀j (_hj:j<k) (hjn:j<xs.length),xs[j]≠s):placeI xs s=k:=by
 have:xs.findIdx (fun x=>decide (x=s))=k:=(List.findIdx_eq hk).2 ⟨by simp [h],fun j hj=>by have:=hb j hj (by omega);simpa using this⟩
 unfold placeI;rw [this,if_pos hk]
theorem place_none {xs:List ByteArray} {s:ByteArray} (hb:∀j (hj:j<xs.length),xs[j]≠s):placeI xs s = -1:=by
 have:xs.findIdx (fun x=>decide (x=s))=xs.length:=List.findIdx_eq_length_of_false fun x hx=>by
  obtain⟨j,hj,rfl⟩:=List.getElem_of_mem hx
  have:=hb j hj;simpa using this
 unfold placeI;rw [this,if_neg (by omega)]
theorem place_cases (xs:List ByteArray) (s:ByteArray):(∃(k:Nat) (hk:k<xs.length),placeI xs s=k∧xs[k]=s∧∀j (_hj:j<k) (hjn:j<xs.length),xs[j]≠s)∨(placeI xs s = -1∧∀j (hj:j<xs.length),xs[j]≠s):=by
 by_cases h:xs.findIdx (fun x=>decide (x=s))<xs.length
 ·have h2:=(List.findIdx_eq (p:=fun x=>decide (x=s)) h).1 rfl
  have h3:∀j (hj:j<xs.findIdx (fun x=>decide (x=s))) (hjn:j<xs.length),xs[j]≠s:=fun j hj hjn=>by have:=h2.2 j hj;simpa using this
  have h4:xs[xs.findIdx (fun x=>decide (x=s))]=s:=by simpa using h2.1
  exact .inl ⟨_,h,place_at h h4 h3,h4,h3⟩
 ·refine .inr ?_
  have h3:∀j (hj:j<xs.length),xs[j]≠s:=fun j hj=>by
   have:=List.not_of_lt_findIdx (p:=fun x=>decide (x=s)) (xs:=xs) (i:=j) (by omega)
   simpa using this
  exact⟨place_none h3,h3⟩
theorem StrsAt.take {w:World} {sa:Option Addr} {n sc i:Nat} {xs:List ByteArray} (h:StrsAt w (.slice sa n sc) xs) (hi:i≤xs.length):StrsAt w (.slice sa i sc) (xs.take i):=by
 obtain⟨ao,cap,hv,h1,h2,h3,h4,h5⟩:=h
 injection hv with e1 e2 e3
 subst e1 e2 e3
 have hl:(xs.take i).length=i:=by rw [List.length_take];omega
 refine⟨sa,sc,by rw [hl],by omega,h2,by omega,h4,fun h0=>?_⟩
 obtain⟨b,off,e,hb,hc⟩:=h5 (by omega)
 refine⟨b,off,e,hb,fun k x hx=>hc k x ?_⟩
 rw [List.getElem?_take]at hx
 split at hx
 ·exact hx
 ·cases hx
set_option maxRecDepth 100000 in
set_option maxHeartbeats 1000000 in
theorem indexStr_any {v:Value} {xs:List ByteArray} {s:ByteArray} {w:World} (h:StrsAt w v xs) :
  Calls Tryd.prog 78 #[v, .string s] w fun e w'=>e = .returned (.int .i64 (placeI xs s))∧Below w.heap.size w w':=by
 obtain⟨ao,cap,rfl,a1,a2,a3,a4,a5⟩:=h
 go_enter Tryd.func78,Tryd.ntmps78
 go_wp2_with fail
 go_loopg [8] xs.length (fun g i wr=>∃k:Nat,k≤xs.length∧g=xs.length-k∧i = .int .i64 k∧Hid (∀j (hj:j<k) (hjn:j<xs.length),xs[j]≠s)∧Below w.heap.size w wr)
 case atStart=>exact⟨0,Nat.zero_le _,rfl,rfl,Lib.hid (fun j hj=>by omega),Below.refl _ _⟩
 case round=>
  obtain⟨k,hk,rfl,rfl,HN,hb⟩:=hrel
  by_cases hlt:k<xs.length
  ·obtain⟨ab,aoff,rfl,abb,ac⟩:=a5 (by omega)
   have e0:=strs_cell hb abb ac hlt
   obtain⟨y,hy⟩:∃y,xs[k]=y:=⟨_,rfl⟩
   rw [hy]at e0
   have HY:=Lib.hid hy
   have hix:=fun w'=>idx_str (ab:=ab) (aoff:=aoff) (n:=xs.length) (cap:=cap) (show (k:Int)=((k:Nat):Int) by rfl) hlt w'
   have hse:=str_eq s y
   clear ac a5 hy
   by_cases hsy:s=y
   ·have HP:=Lib.hid (place_at hlt (HY.out.trans hsy.symm) HN.out)
    have hsd:decide (s=y)=true:=by simp [hsy]
    rw [hsd]at hse
    clear hsy hsd
    go_wp2
    go_ret
    rw [HP.out]
    exact⟨rfl,hb⟩
   ·have HN2:=Lib.hid (show ∀j (hj:j<k+1) (hjn:j<xs.length),xs[j]≠s from fun j hj hjn=>by
     by_cases hjk:j=k
     ·subst hjk;rw [HY.out];exact fun h=>hsy h.symm
     ·exact HN.out j (by omega) hjn)
    have hsd:decide (s=y)=false:=by simp [hsy]
    rw [hsd]at hse
    clear hsy hsd
    go_wp2
    go_roundg (xs.length-(k+1))
    case measure=>omega
    case rel=>exact⟨k+1,by omega,rfl,by go_num,HN2,hb⟩
  ·have HP:=Lib.hid (place_none (xs:=xs) (s:=s) fun j hj=>HN.out j (by omega) hj)
   go_wp2
   go_ret
   rw [HP.out]
   exact⟨rfl,hb⟩
set_option maxRecDepth 100000 in
theorem containsStr_any {v:Value} {xs:List ByteArray} {s:ByteArray} {w:World} (h:StrsAt w v xs) :
  Calls Tryd.prog 54 #[v, .string s] w fun e w'=>e = .returned (.bool (decide (0≤placeI xs s)))∧Below w.heap.size w w':=by
 have HI:=Lib.hid (indexStr_any (s:=s) h)
 obtain⟨p,hp⟩:∃p,placeI xs s=p:=⟨_,rfl⟩
 rw [hp]at HI ⊢
 clear hp
 go_enter Tryd.func54,Tryd.ntmps54
 go_wp2_with ((go_at_call 78;(with_reducible refine HI.out.mono ?_);rintro e w2 ⟨rfl,hb2⟩))
 go_ret
 exact⟨rfl,hb2⟩
end Go.Proofs.YtnjfkcimboidnaaDoor

/- The walk of base.points: what is known of each time. -/
namespace Go.Proofs.YtnjfkcimboidnaaDoor
open Go.RowKit
set_option maxRecDepth 100000 in
set_option maxHeartbeats 1000000 in
theorem points_any {v:Value} {b:Ba} {w:World} (h:BaseAt w v b) :
  Calls Tryd.prog 55 #[v] w (RolPost w.heap.size w (bookR b)):=by
 obtain⟨sa,sc,g0,l0,p0,g1,l1,p1,g2,l2,p2,rfl,hn,_,T0,_,_⟩:=h.open
 obtain⟨W0,hW0⟩:∃W0,W0=w.alloc (.cells (baCells sa b.names.length sc g0 l0 p0 g1 l1 p1 g2 l2 p2 b) 35):=⟨_,rfl⟩
 have hb0:Below w.heap.size w W0:=by rw [hW0];exact belowAuto
 have hz0:W0.heap.size=w.heap.size+1:=by rw [hW0];simp
 have k0:W0.heap[w.heap.size]?=some (.cells (baCells sa b.names.length sc g0 l0 p0 g1 l1 p1 g2 l2 p2 b) 35):=by rw [hW0];exact heap_new _ _ rfl
 have HX:=Lib.hid fun w' (hb:Below W0.heap.size W0 w')=>(by
  have b0:w'.heap[w.heap.size]?=_:=(hb.block _ (by omega)).trans k0
  simp [World.cell?,b0] :
  w'.cell? ⟨w.heap.size,0,none⟩=some (.slice sa b.names.length sc)∧w'.cell? ⟨w.heap.size,7,none⟩=some (.int .i64 b.floor))
 have HB:=Lib.hid fun w' (hb:Below W0.heap.size W0 w')=>(Below.trans' hb0 hb hb0.size:Below w.heap.size w w')
 have HA:=Lib.hid ((all_any (lo:=0) (hi:=1099511627776) (T0 W0 hb0)).mono fun e w' hp=>AllPost.allT hp)
 obtain⟨c1,c2⟩:W0.cell? ⟨w.heap.size,1,none⟩=some (.slice g0 l0 p0)∧W0.cell? ⟨w.heap.size,2,none⟩=some (.int .i64 b.t0.root):=by simp [World.cell?,k0]
 clear T0
 go_enter Tryd.func55,Tryd.ntmps55
 go_upto_region 1 with (fail)
 rw [←hW0]
 clear hW0 k0
 cases hT:allT b.t0 with
 |none=>
  have HN:=Lib.hid (book_none hT)
  rw [hT]at HA
  clear hT
  go_wp2_with ((go_at_call 45;(with_reducible refine HA.out.mono ?_);rintro e w1 ⟨hb1,E,hE,rfl⟩;have hbw:=HB.out _ hb1))
  go_ret2
  rw [HN.out]
  exact⟨hbw,rfl⟩
 |some l=>
  have HT:=Lib.hid hT
  have HG:=Lib.hid (allT_good hT)
  have hlen:l.length≤50000:=(allT_good hT).2.2.2
  rw [hT]at HA
  clear hT
  go_upto_region 4 with ((go_at_call 45;(with_reducible refine HA.out.mono ?_);rintro e w1 ⟨hb1,v1,rfl,ho1⟩;obtain⟨s1,d1,rfl⟩:=ho1.isSlice))
  have HL:=Lib.hid (ho1.at (by omega))
  have HO:=Lib.hid ho1
  have hz1:=hb1.size
  clear c1 c2 ho1
  go_wp2_with fail
  go_loopg [20] l.length (fun g i wr=>∃k:Nat,k≤l.length∧g=l.length-k∧i = .int .i64 k∧Hid ((l.take k).all (bookOk b)=true)∧Below w1.heap.size w1 wr)
  case atStart=>exact⟨0,Nat.zero_le _,rfl,rfl,Lib.hid rfl,Below.refl _ _⟩
  case round=>
   obtain⟨k,hk,rfl,rfl,HR,hb⟩:=hrel
   have hsz:=hb.size
   have hbB:Below W0.heap.size W0 wr:=Below.trans' hb1 hb hz1
   obtain⟨x0,x7⟩:=HX.out _ hbB
   by_cases hlt:k<l.length
   ·obtain⟨_,_,hv,-,-,-,-,h5⟩:=HL.out
    injection hv with hv1 _ hv3
    subst hv3
    obtain⟨eb,eoff,hla,heb,hec⟩:=h5 (by omega)
    subst hla
    subst hv1
    obtain⟨y0,y1,y2,y3,y4,y5,y6⟩:=ent_cells hb heb hec hlt
    obtain⟨y,hy⟩:∃y,l[k]=y:=⟨_,rfl⟩
    rw [hy]at y0 y1 y2 y3 y4 y5 y6
    have hyl:y∈l:=by rw [←hy];exact List.getElem_mem hlt
    obtain⟨hk0,hk1⟩:=HG.out.2.2.1 y hyl
    have HBAD:=Lib.hid fun(h:bookOk b y=false)=>book_bad HT.out hlt (by rw [hy];exact h)
    have HGOOD:=Lib.hid fun(h:bookOk b y=true)=>(by rw [List.take_succ_eq_append_getElem hlt,List.all_append,HR.out,hy];simp [h]:(l.take (k+1)).all (bookOk b)=true)
    obtain⟨M,hM⟩:∃M,y.key%1048576=M:=⟨_,rfl⟩
    obtain⟨Q,hQ⟩:∃Q,y.key/1048576=Q:=⟨_,rfl⟩
    have hM0:0≤M∧M<1048576:=by omega
    have hQ0:0≤Q∧Q<1048576:=by omega
    have m1:y.key.tmod 1048576=M:=by rw [Int.tmod_eq_emod_of_nonneg hk0];exact hM
    have m2:y.key.tdiv 1048576=Q:=by rw [Int.tdiv_eq_ediv_of_nonneg hk0];exact hQ
    have m3:IntKind.i64.wrap M=M:=IntWalk.i64_in _ (by omega)
    have m4:IntKind.i64.wrap Q=Q:=IntWalk.i64_in _ (by omega)
    have HOK:=Lib.hid (show bookOk b y=(decide (Q<b.names.length) && decide (b.floor≤M) && decide (y.is.t=M)) by simp [bookOk,hM,hQ])
    have hix:=fun w'=>idx_ents (ab:=eb) (aoff:=eoff) (n:=l.length) (cap:=d1) (show (k:Int)=((k:Nat):Int) by rfl) hlt w'
    have hwz:eb<wr.heap.size:=by omega
    have hbN:Below w.heap.size w wr:=HB.out _ hbB
    obtain⟨W1,hW1⟩:∃W1,W1=wr.alloc (.cells #[.int .i64 y.key, .int .i64 y.is.c, .int .i64 y.is.s, .int .i64 y.is.mi, .int .i64 y.is.ma, .int .i64 y.is.t, .int .i64 y.is.l] 96):=⟨_,rfl⟩
    have hb1:Below wr.heap.size wr W1:=by rw [hW1];exact belowAuto
    have k1:W1.heap[wr.heap.size]?=some (.cells #[.int .i64 y.key, .int .i64 y.is.c, .int .i64 y.is.s, .int .i64 y.is.mi, .int .i64 y.is.ma, .int .i64 y.is.t, .int .i64 y.is.l] 96):=by rw [hW1];exact heap_new _ _ rfl
    have hbn:Below w1.heap.size w1 W1:=Below.trans' hb hb1 hsz
    have hbNn:Below w.heap.size w W1:=Below.trans' hbN hb1 hbN.size
    obtain⟨z0,z7⟩:=HX.out _ (Below.trans' hbB hb1 hbB.size)
    obtain⟨q0,q5⟩:W1.cell? ⟨wr.heap.size,0,none⟩=some (.int .i64 y.key)∧W1.cell? ⟨wr.heap.size,5,none⟩=some (.int .i64 y.is.t):=by simp [World.cell?,k1]
    clear hec h5 hy hyl hM hQ hM0 hQ0 hbB
    go_upto_region 7 with (fail)
    rw [←hW1]
    clear hW1 k1 x0 x7 y0 y1 y2 y3 y4 y5 y6
    by_cases i1:Q<b.names.length
    ·have e1:decide ((b.names.length:Int)≤Q)=false:=by simp;omega
     by_cases i2:b.floor≤M
     ·have e2:decide (M<b.floor)=false:=by simp;omega
      by_cases i3:y.is.t=M
      ·have e3:(y.is.t != M)=false:=by simp [i3]
       have HGD:=Lib.hid (HGOOD.out (by rw [HOK.out];simp [i1,i2,i3]))
       clear i1 i2 i3 HGOOD HBAD HOK
       go_wp2
       go_roundg (l.length-(k+1))
       case measure=>omega
       case rel=>exact⟨k+1,by omega,rfl,by go_num,HGD,belowAuto⟩
      ·have e3:(y.is.t != M)=true:=by simp [i3]
       have HBD:=Lib.hid (HBAD.out (by rw [HOK.out];simp [i3]))
       clear i1 i2 i3 HGOOD HBAD HOK
       go_wp2
       go_ret2
       rw [HBD.out]
       exact⟨belowAuto,rfl⟩
     ·have e2:decide (M<b.floor)=true:=by simp;omega
      have HBD:=Lib.hid (HBAD.out (by rw [HOK.out];simp [i2]))
      clear i1 i2 HGOOD HBAD HOK
      go_wp2
      go_ret2
      rw [HBD.out]
      exact⟨belowAuto,rfl⟩
    ·have e1:decide ((b.names.length:Int)≤Q)=true:=by simp;omega
     have HBD:=Lib.hid (HBAD.out (by rw [HOK.out];simp [i1]))
     clear i1 HGOOD HBAD HOK
     go_wp2
     go_ret2
     rw [HBD.out]
     exact⟨belowAuto,rfl⟩
   ·have HN:=Lib.hid (book_ok HT.out (by have:=HR.out;rw [List.take_of_length_le (by omega)]at this;exact this))
    have hbN:Below w.heap.size w wr:=HB.out _ hbB
    have ho:=(HO.out.below hb (Nat.le_refl _)).mono (show w.heap.size≤W0.heap.size by omega)
    clear hbB
    go_wp2
    go_ret2
    rw [HN.out]
    exact⟨hbN,_,rfl,ho⟩
end Go.Proofs.YtnjfkcimboidnaaDoor

/- Rows and totals of a series: what the document computes, and that the trees of a base that may be know it. No program in sight. -/
namespace Go.Proofs.YtnjfkcimboidnaaDoor
theorem look_filter {p:Int→Bool} (l:List Ent) (k:Int):look (l.filter fun e=>p e.key) k=if p k=true then look l k else Roll.zero:=by
 induction l with
 |nil=>simp [look]
 |cons e l ih=>
  by_cases h:p e.key=true
  ·rw [List.filter_cons_of_pos (by simpa using h)]
   simp only [look]
   by_cases hk:e.key=k
   ·rw [if_pos hk,if_pos hk,ih]
    subst hk
    rw [if_pos h,if_pos h]
   ·rw [if_neg hk,if_neg hk,ih]
  ·rw [List.filter_cons_of_neg (by simpa using h),ih]
   simp only [look]
   by_cases hk:e.key=k
   ·subst hk;rw [if_neg h,if_neg h]
   ·rw [if_neg hk]
theorem rising_filter {l:List Ent} (h:Rising l) (p:Ent→Bool):Rising (l.filter p):=List.Pairwise.sublist List.filter_sublist h
theorem goods_filter {l:List Ent} (h:Goods l) (p:Ent→Bool):Goods (l.filter p):=fun e he=>h e (List.mem_filter.1 he).1
theorem bagC_filter {l es:List Ent} (hl:Checked l) (h:bagC l=some es) (p:Int→Bool):bagC (l.filter fun e=>p e.key)=some (es.filter fun e=>p e.key):=by
 obtain⟨h1,h2,_,_,h5⟩:=bagC_some hl h
 have hs:Small (l.filter fun e=>p e.key):=fun k=>by
  rw [look_filter]
  split
  ·exact h2 k
  ·decide
 rw [bagC_eq (checked_filter hl),if_pos hs]
 congr 1
 refine look_ext (bag_rising (goods_filter hl.goods _)) (rising_filter h5 _) (bag_goods (goods_filter hl.goods _)) (goods_filter (by rw [h1];exact bag_goods hl.goods) _) fun k=>?_
 rw [look_bag (goods_filter hl.goods _),look_filter,look_filter,h1,look_bag hl.goods]
theorem allR_sub {t:Tr} {m:List Ent} (h:allT t=some m) (lo hi:Int):treeFault t=0∧allR t lo hi=some (m.filter (inRange lo hi)):=by
 unfold allT at h
 split at h
 ·rename_i hf
  refine⟨hf,?_⟩
  obtain⟨_,hv⟩:=treeFault_ok hf
  unfold allR at *
  have hall:t.all.filter (inRange 0 1099511627776)=t.all:=List.filter_eq_self.2 fun e he=>by
   have:=valid_range hv e he
   simp [inRange];omega
  rw [hall]at h
  exact bagC_filter (valid_checked hv) h fun k=>decide (lo≤k) && decide (k<hi)
 ·cases h
theorem base_knows {b:Ba} (h:baseMay b=true):∃l,bookR b=some l∧Rising l∧PGood l∧∀k,k<3→∃m,rolledR l (szOf k)=some m∧allT (b.tree k)=some m:=by
 obtain⟨l,hl,ht⟩:=(baseMay_ok h).trees
 refine⟨l,hl,(bookR_good hl).1,(bookR_good hl).2,fun k hk=>?_⟩
 have:=ht k hk
 unfold treeOk at this
 cases h1:rolledR l (szOf k) with
 |none=>rw [h1]at this;cases this
 |some a=>
  cases h2:allT (b.tree k) with
  |none=>rw [h1,h2]at this;cases this
  |some c=>
   rw [h1,h2]at this
   have hac:a=c:=by simpa using this
   exact⟨a,rfl,by rw [hac]⟩
noncomputable def seriesE (b:Ba) (s:ByteArray):Int:=if baseMay b=true then(if placeI b.names s<0 then 6 else 0)else 7
def inRow (p a z:Int) (e:Ent):Bool:=decide (e.key/1048576=p) && inR (e.key%1048576) a z
def rowOf (e:Ent):Ent:=⟨e.key%1048576,e.is⟩
def rowsOk (a z:Int):Prop:=0≤a∧a≤z∧z≤1048575
instance (a z:Int):Decidable (rowsOk a z):=by unfold rowsOk;infer_instance
noncomputable def rowsL (b:Ba) (s:ByteArray) (size a z:Int):List Ent:=
 match bookR b with|none=>[]|some l=>match rolledR l size with|none=>[]|some m=>(m.filter (inRow (placeI b.names s) a z)).map rowOf
noncomputable def rowsE (b:Ba) (s:ByteArray) (size a z:Int):Int:=
 if seriesE b s≠0 then seriesE b s else if size≠1∧size≠60∧size≠3600 then 3 else if ¬rowsOk a z then 2 else if 500<(rowsL b s size a z).length then 1 else 0
noncomputable def rowsR (b:Ba) (s:ByteArray) (size a z:Int):List Ent:=if rowsE b s size a z=0 then rowsL b s size a z else []
theorem seriesE_cases (b:Ba) (s:ByteArray):(seriesE b s=7∧baseMay b=false)∨(seriesE b s=6∧baseMay b=true∧placeI b.names s = -1)∨(seriesE b s=0∧baseMay b=true∧∃k:Nat,k<16∧placeI b.names s=k):=by
 unfold seriesE
 cases h:baseMay b with
 |false=>exact .inl ⟨by simp,rfl⟩
 |true=>
  rcases place_cases b.names s with ⟨k,hk,e,_⟩|⟨e,_⟩
  ·have:=(baseMay_ok h).n16
   exact .inr (.inr ⟨by simp only [if_true];rw [if_neg (by omega)],rfl,k,by omega,e⟩)
  ·exact .inr (.inl ⟨by simp only [if_true];rw [if_pos (by omega)],rfl,e⟩)
end Go.Proofs.YtnjfkcimboidnaaDoor

/- Rows of the calls' own; rows compared. -/
namespace Go.Proofs.YtnjfkcimboidnaaDoor
open Go.RowKit
structure OwnRows (B:Nat) (w:World) (v:Value) (es:List Ent):Prop where
 row:w.ownsRow B 52 7 v es.length (es.flatMap enEnt)
theorem OwnRows.nil (B:Nat) (w:World):OwnRows B w (.slice none 0 0) []:=⟨World.ownsRow_nil _ _ _ _⟩
theorem OwnRows.alloc {B:Nat} {w:World} {v:Value} {es:List Ent} (h:OwnRows B w v es) (o:Obj):OwnRows B (w.alloc o) v es:=⟨World.ownsRow.alloc h.row o⟩
theorem OwnRows.block {B:Nat} {w w':World} {v:Value} {es:List Ent} (h:OwnRows B w v es) (hb:∀g,v.ownBlock=some g→w'.heap[g]?=w.heap[g]?):OwnRows B w' v es:=by
 obtain⟨hl,⟨rfl,h0⟩|⟨g,cap,cur,rfl,hB,hg,h1,h2,h3,h4⟩⟩:=h.row
 ·exact⟨⟨hl, .inl ⟨rfl,h0⟩⟩⟩
 ·exact⟨⟨hl, .inr ⟨g,cap,cur,rfl,hB,(hb g rfl).trans hg,h1,h2,h3,h4⟩⟩⟩
theorem OwnRows.drew {B:Nat} {w:World} {v:Value} {es:List Ent} (h:OwnRows B w v es):OwnRows B w.drew v es:=h.block fun _ _=>rfl
theorem OwnRows.drewN {B:Nat} {w:World} {v:Value} {es:List Ent} (h:OwnRows B w v es) (n:Nat):OwnRows B (w.drewN n) v es:=h.block fun _ _=>rfl
theorem OwnRows.lt {B:Nat} {w:World} {v:Value} {es:List Ent} (h:OwnRows B w v es):∀g,v.ownBlock=some g→B≤g∧g<w.heap.size:=World.ownsRow.lt h.row
theorem OwnRows.below {B C:Nat} {w w':World} {v:Value} {es:List Ent} (h:OwnRows B w v es) (hb:Below C w w') (hC:w.heap.size≤C):OwnRows B w' v es:=h.block fun g hg=>hb.block g (by have:=(h.lt g hg).2;omega)
theorem OwnRows.mono {B C:Nat} {w:World} {v:Value} {es:List Ent} (h:OwnRows B w v es) (hC:C≤B):OwnRows C w v es:=by
 obtain⟨hl,⟨rfl,h0⟩|⟨g,cap,cur,rfl,hB,hg,h1,h2,h3,h4⟩⟩:=h.row
 ·exact⟨⟨hl, .inl ⟨rfl,h0⟩⟩⟩
 ·exact⟨⟨hl, .inr ⟨g,cap,cur,rfl,by omega,hg,h1,h2,h3,h4⟩⟩⟩
theorem OwnRows.at {B:Nat} {w:World} {v:Value} {es:List Ent} (h:OwnRows B w v es) (hs:es.length≤1000000):EntsAt w v es:=SlAt.owned enEnt_length h.row rfl (by omega)
theorem OwnRows.isSlice {B:Nat} {w:World} {v:Value} {es:List Ent} (h:OwnRows B w v es):∃ao cap,v = .slice ao es.length cap:=by
 obtain⟨hl,⟨rfl,h0⟩|⟨g,cap,cur,rfl,_⟩⟩:=h.row
 ·exact⟨none,0,by rw [h0]⟩
 ·exact⟨_,_,rfl⟩
end Go.Proofs.YtnjfkcimboidnaaDoor
