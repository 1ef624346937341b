/- Texts of mine that come as one: Ents Same NodeGet With Rolled May Height HeightB HeightC Fault AllOf. -/
import Derived.Test.YtmljjfhgciaceaaDoorHd
import Derived.Test.YtmljjfhgciaceaaDoorKG
import Derived.Test.YtmljjfhgciaceaaDoorPA
import Derived.Deep.RegionHeld3
import Derived.StillTailTactics
import Derived.Deep.CutBlock
import Derived.Laws.OwnMore
import Derived.OwnWalk
namespace Go.Proofs.YtmljjfhgciaceaaDoor
open Go.RowKit
section
set_option maxHeartbeats 1000000
variable {xs ys:List aC} {b off k:Nat} {α:Type} {va vb:Value} {w wr:World}
theorem bU (hb:ah w wr) (hbb:b<w.heap.size)
  (h:∀i x,xs[i]?=some x->∀j u,(aZ x)[j]?=some u->w.cell? ⟨b,off+i*7+j,none⟩=some u) (hk:k<xs.length) :
  wr.cell? ⟨b,off+k*7,none⟩=some (.int .i64 xs[k].key)/\wr.cell? ⟨b,off+k*7+1,none⟩=some (.int .i64 xs[k].is.c)/\wr.cell? ⟨b,off+k*7+2,none⟩=some (.int .i64 xs[k].is.s) /\
  wr.cell? ⟨b,off+k*7+3,none⟩=some (.int .i64 xs[k].is.mi)/\wr.cell? ⟨b,off+k*7+4,none⟩=some (.int .i64 xs[k].is.ma)/\wr.cell? ⟨b,off+k*7+5,none⟩=some (.int .i64 xs[k].is.t) /\
  wr.cell? ⟨b,off+k*7+6,none⟩=some (.int .i64 xs[k].is.l):=by
 have g:∀j u,(aZ xs[k])[j]?=some u->wr.cell? ⟨b,off+k*7+j,none⟩=some u:=fun j u hu=>
  (hb.cell (p:=⟨b,_,none⟩) hbb).trans (h k xs[k] (by simp [hk]) j u hu)
 exact⟨by simpa using g 0 _ rfl,g 1 _ rfl,g 2 _ rfl,g 3 _ rfl,g 4 _ rfl,g 5 _ rfl,g 6 _ rfl⟩
theorem Mp {xs:List Int} (hb:ah w wr) (hbb:b<w.heap.size)
  (h:∀i x,xs[i]?=some x->∀j u,(bX x)[j]?=some u->w.cell? ⟨b,off+i*1+j,none⟩=some u) (hk:k<xs.length) :
  wr.cell? ⟨b,off+k,none⟩=some (.int .i64 xs[k]):=by
 have:=(hb.cell (p:=⟨b,_,none⟩) hbb).trans (h k xs[k] (by simp [hk]) 0 _ rfl)
 simpa using this
theorem Ck {xs ys:List α} (h:xs.take k=ys.take k) (hx:k<xs.length) (hy:k<ys.length) (he:xs[k]=ys[k]):xs.take (k+1)=ys.take (k+1):=by
 rw [kK hx,kK hy,h,he]
theorem JM {xs ys:List α} (hx:k<xs.length) (hy:k<ys.length) (he:xs[k]≠ys[k]):xs≠ys:=by
 intro h;subst h;exact he rfl
theorem aeE (ha:fu w va xs) (hb:fu w vb ys) :
  Calls Tryd.prog 79 #[va,vb] w fun e w'=>e = .returned (.bool (decide (xs=ys)))/\ah w w':=by
 obtain⟨ao,ca,rfl,a1,a2,a3,a4,a5⟩:=ha
 obtain⟨bo,cb,rfl,b1,b2,b3,b4,b5⟩:=hb
 by_cases hl:xs.length=ys.length
 ·have hl':((xs.length:Int) != (ys.length:Int))=false:=by simp [hl]
  go_enter Tryd.func79,Tryd.ntmps79
  go_wp2_with fail
  go_loopg [5] xs.length (fun g i wr=>∃k:Nat,k<=xs.length/\g=xs.length-k/\i = .int .i64 k/\Hid (xs.take k=ys.take k)/\ah w wr)
  case atStart=>exact⟨0,jd _,rfl,rfl,hdd bj,aI _ _⟩
  case round=>
   obtain⟨k,hk,rfl,rfl,HE,cZ⟩:=hrel
   by_cases hlt:k<xs.length
   ·obtain⟨ab,aV,rfl,sO,ac⟩:=a5 af
    obtain⟨bb,ahh,rfl,ub,bc⟩:=b5 af
    have jJ:k<ys.length:=af
    obtain⟨c0,c1,c2,c3,c4,c5,c6⟩:=bU cZ sO ac hlt
    obtain⟨d0,d1,d2,d3,d4,d5,d6⟩:=bU cZ ub bc jJ
    clear ac bc a5 b5
    obtain⟨e,he⟩:=bt (xs[k])
    obtain⟨f,hf⟩:=bt (ys[k])
    rw [he]at c0 c1 c2 c3 c4 c5 c6
    rw [hf]at d0 d1 d2 d3 d4 d5 d6
    have EE:=hdd he
    have FF:=hdd hf
    have HL:=hdd hl
    clear he hf hl
    have hne:=Dn e f
    by_cases Re:e=f
    ·have ab6:(decide (e=f))=true:=by simp [Re]
     have UG:=hdd Re
     clear Re
     go_wp2
     go_quiet (fail)
     go_wp2
     go_roundg (xs.length-(k+1))
     case measure=>omega
     case rel=>exact⟨k+1,af,rfl,by go_num,hdd (Ck HE.out hlt jJ (by rw [EE.out,FF.out,UG.out])),(by repeat (first|exact aI _ _|assumption|refine cJ ?_ _|refine Below.drew ?_|refine Below.alloc ?_ (by simp <;> omega) _|refine Below.setCell ?_ (by simp <;> omega) _))⟩
    ·have ab6:(decide (e=f))=false:=by simp [Re]
     have hxy:decide (xs=ys)=false:=by simpa using JM hlt jJ (by rw [EE.out,FF.out];exact Re)
     clear Re
     go_wp2
     go_quiet (fail)
     go_wp2
     go_ret
     exact⟨dP hxy.symm,(by repeat (first|exact aI _ _|assumption|refine cJ ?_ _|refine Below.drew ?_|refine Below.alloc ?_ (by simp <;> omega) _|refine Below.setCell ?_ (by simp <;> omega) _))⟩
   ·have hxy:decide (xs=ys)=true:=by
     have h1:=HE.out
     rw [lI af,lI af]at h1
     simpa using h1
    have HL:=hdd hl
    clear hl
    go_wp2
    go_ret
    exact⟨dP hxy.symm,(by repeat (first|exact aI _ _|assumption|refine cJ ?_ _|refine Below.drew ?_|refine Below.alloc ?_ (by simp <;> omega) _|refine Below.setCell ?_ (by simp <;> omega) _))⟩
 ·have hl':((xs.length:Int) != (ys.length:Int))=true:=by simp;omega
  have hxy:decide (xs=ys)=false:=by simp;intro h;subst h;exact hl rfl
  clear hl
  go_enter Tryd.func79,Tryd.ntmps79
  go_wp2_with fail
  go_ret
  exact⟨dP hxy.symm,(by repeat (first|exact aI _ _|assumption|refine cJ ?_ _|refine Below.drew ?_|refine Below.alloc ?_ (by simp <;> omega) _|refine Below.setCell ?_ (by simp <;> omega) _))⟩
theorem adn (ha:fu w va xs) (hb:fu w vb ys) :
  Calls Tryd.prog 52 #[va,vb] w fun e w'=>e = .returned (.bool (decide (xs=ys)))/\ah w w':=by
 obtain⟨ao,ca,rfl,a1,a2,a3,a4,a5⟩:=ha
 obtain⟨bo,cb,rfl,b1,b2,b3,b4,b5⟩:=hb
 by_cases hl:xs.length=ys.length
 ·have hl':((xs.length:Int) != (ys.length:Int))=false:=by simp [hl]
  go_enter Tryd.func52,Tryd.ntmps52
  go_wp2_with fail
  go_loopg [5] xs.length (fun g i wr=>∃k:Nat,k<=xs.length/\g=xs.length-k/\i = .int .i64 k/\Hid (xs.take k=ys.take k)/\ah w wr)
  case atStart=>exact⟨0,jd _,rfl,rfl,hdd bj,aI _ _⟩
  case round=>
   obtain⟨k,hk,rfl,rfl,HE,cZ⟩:=hrel
   by_cases hlt:k<xs.length
   ·obtain⟨ab,aV,rfl,sO,ac⟩:=a5 af
    obtain⟨bb,ahh,rfl,ub,bc⟩:=b5 af
    have jJ:k<ys.length:=af
    obtain⟨c0,c1,c2,c3,c4,c5,c6⟩:=bU cZ sO ac hlt
    obtain⟨d0,d1,d2,d3,d4,d5,d6⟩:=bU cZ ub bc jJ
    clear ac bc a5 b5
    obtain⟨e,he⟩:=bt (xs[k])
    obtain⟨f,hf⟩:=bt (ys[k])
    rw [he]at c0 c1 c2 c3 c4 c5 c6
    rw [hf]at d0 d1 d2 d3 d4 d5 d6
    have EE:=hdd he
    have FF:=hdd hf
    have HL:=hdd hl
    clear he hf hl
    have hne:=Dn e f
    by_cases Re:e=f
    ·have ab6:(decide (e=f))=true:=by simp [Re]
     have UG:=hdd Re
     clear Re
     go_wp2
     go_quiet (fail)
     go_wp2
     go_roundg (xs.length-(k+1))
     case measure=>omega
     case rel=>exact⟨k+1,af,rfl,by go_num,hdd (Ck HE.out hlt jJ (by rw [EE.out,FF.out,UG.out])),(by repeat (first|exact aI _ _|assumption|refine cJ ?_ _|refine Below.drew ?_|refine Below.alloc ?_ (by simp <;> omega) _|refine Below.setCell ?_ (by simp <;> omega) _))⟩
    ·have ab6:(decide (e=f))=false:=by simp [Re]
     have hxy:decide (xs=ys)=false:=by simpa using JM hlt jJ (by rw [EE.out,FF.out];exact Re)
     clear Re
     go_wp2
     go_quiet (fail)
     go_wp2
     go_ret
     exact⟨dP hxy.symm,(by repeat (first|exact aI _ _|assumption|refine cJ ?_ _|refine Below.drew ?_|refine Below.alloc ?_ (by simp <;> omega) _|refine Below.setCell ?_ (by simp <;> omega) _))⟩
   ·have hxy:decide (xs=ys)=true:=by
     have h1:=HE.out
     rw [lI af,lI af]at h1
     simpa using h1
    have HL:=hdd hl
    clear hl
    go_wp2
    go_ret
    exact⟨dP hxy.symm,(by repeat (first|exact aI _ _|assumption|refine cJ ?_ _|refine Below.drew ?_|refine Below.alloc ?_ (by simp <;> omega) _|refine Below.setCell ?_ (by simp <;> omega) _))⟩
 ·have hl':((xs.length:Int) != (ys.length:Int))=true:=by simp;omega
  have hxy:decide (xs=ys)=false:=by simp;intro h;subst h;exact hl rfl
  clear hl
  go_enter Tryd.func52,Tryd.ntmps52
  go_wp2_with fail
  go_ret
  exact⟨dP hxy.symm,(by repeat (first|exact aI _ _|assumption|refine cJ ?_ _|refine Below.drew ?_|refine Below.alloc ?_ (by simp <;> omega) _|refine Below.setCell ?_ (by simp <;> omega) _))⟩
theorem aeW {xs ys:List Int} (ha:gy w va xs) (hb:gy w vb ys) :
  Calls Tryd.prog 80 #[va,vb] w fun e w'=>e = .returned (.bool (decide (xs=ys)))/\ah w w':=by
 obtain⟨ao,ca,rfl,a1,a2,a3,a4,a5⟩:=ha
 obtain⟨bo,cb,rfl,b1,b2,b3,b4,b5⟩:=hb
 by_cases hl:xs.length=ys.length
 ·have hl':((xs.length:Int) != (ys.length:Int))=false:=by simp [hl]
  go_enter Tryd.func80,Tryd.ntmps80
  go_wp2_with fail
  go_loopg [5] xs.length (fun g i wr=>∃k:Nat,k<=xs.length/\g=xs.length-k/\i = .int .i64 k/\Hid (xs.take k=ys.take k)/\ah w wr)
  case atStart=>exact⟨0,jd _,rfl,rfl,hdd bj,aI _ _⟩
  case round=>
   obtain⟨k,hk,rfl,rfl,HE,cZ⟩:=hrel
   by_cases hlt:k<xs.length
   ·obtain⟨ab,aV,rfl,sO,ac⟩:=a5 af
    obtain⟨bb,ahh,rfl,ub,bc⟩:=b5 af
    have jJ:k<ys.length:=af
    obtain c0:=Mp cZ sO ac hlt
    obtain d0:=Mp cZ ub bc jJ
    clear ac bc a5 b5
    obtain⟨e,he⟩:=bt (xs[k])
    obtain⟨f,hf⟩:=bt (ys[k])
    rw [he]at c0
    rw [hf]at d0
    have EE:=hdd he
    have FF:=hdd hf
    have HL:=hdd hl
    clear he hf hl
    have hne:True:=trivial
    by_cases Re:e=f
    ·have ab6:(e != f) = !true:=by simp [Re]
     have UG:=hdd Re
     clear Re
     go_wp2
     go_quiet (fail)
     go_wp2
     go_roundg (xs.length-(k+1))
     case measure=>omega
     case rel=>exact⟨k+1,af,rfl,by go_num,hdd (Ck HE.out hlt jJ (by rw [EE.out,FF.out,UG.out])),(by repeat (first|exact aI _ _|assumption|refine cJ ?_ _|refine Below.drew ?_|refine Below.alloc ?_ (by simp <;> omega) _|refine Below.setCell ?_ (by simp <;> omega) _))⟩
    ·have ab6:(e != f) = !false:=by simp [Re]
     have hxy:decide (xs=ys)=false:=by simpa using JM hlt jJ (by rw [EE.out,FF.out];exact Re)
     clear Re
     go_wp2
     go_quiet (fail)
     go_wp2
     go_ret
     exact⟨dP hxy.symm,(by repeat (first|exact aI _ _|assumption|refine cJ ?_ _|refine Below.drew ?_|refine Below.alloc ?_ (by simp <;> omega) _|refine Below.setCell ?_ (by simp <;> omega) _))⟩
   ·have hxy:decide (xs=ys)=true:=by
     have h1:=HE.out
     rw [lI af,lI af]at h1
     simpa using h1
    have HL:=hdd hl
    clear hl
    go_wp2
    go_ret
    exact⟨dP hxy.symm,(by repeat (first|exact aI _ _|assumption|refine cJ ?_ _|refine Below.drew ?_|refine Below.alloc ?_ (by simp <;> omega) _|refine Below.setCell ?_ (by simp <;> omega) _))⟩
 ·have hl':((xs.length:Int) != (ys.length:Int))=true:=by simp;omega
  have hxy:decide (xs=ys)=false:=by simp;intro h;subst h;exact hl rfl
  clear hl
  go_enter Tryd.func80,Tryd.ntmps80
  go_wp2_with fail
  go_ret
  exact⟨dP hxy.symm,(by repeat (first|exact aI _ _|assumption|refine cJ ?_ _|refine Below.drew ?_|refine Below.alloc ?_ (by simp <;> omega) _|refine Below.setCell ?_ (by simp <;> omega) _))⟩
end
section
set_option maxRecDepth 100000
set_option maxHeartbeats 4000000
variable {va vb:Value} {w w':World}
theorem aeD {wr:World} {b off k:Nat} {xs:List Raw} (hb:ah w wr) (hbb:b<w.heap.size)
  (h:∀i x,xs[i]?=some x->∀j u,(cI x)[j]?=some u->w.cell? ⟨b,off+i*5+j,none⟩=some u) {r:Raw} (hk:xs[k]?=some r) :
  wr.cell? ⟨b,off+k*5,none⟩=some (.bool r.leaf)/\wr.cell? ⟨b,off+k*5+1,none⟩=some r.ev/\wr.cell? ⟨b,off+k*5+2,none⟩=some r.kv/\wr.cell? ⟨b,off+k*5+3,none⟩=some r.dv/\wr.cell? ⟨b,off+k*5+4,none⟩=some r.bv:=by
 have g:∀j u,(cI r)[j]?=some u->wr.cell? ⟨b,off+k*5+j,none⟩=some u:=fun j u hu=>
  (hb.cell (p:=⟨b,_,none⟩) hbb).trans (h k r hk j u hu)
 exact⟨by simpa using g 0 _ rfl,g 1 _ rfl,g 2 _ rfl,g 3 _ rfl,g 4 _ rfl⟩
theorem afh {xs:List aC} (ha:fu w va xs) (hb:fu w vb xs) (h:ah w w') :
  Calls Tryd.prog 79 #[va,vb] w' fun e w2=>e = .returned (.bool true)/\ah w' w2/\ah w w2:=
 (aeE (ha.below h aH) (hb.below h aH)).mono fun e w2 ⟨e1,b⟩=>⟨by simpa using e1,b,Below.trans' h b h.size⟩
theorem afg {xs:List Int} (ha:gy w va xs) (hb:gy w vb xs) (h:ah w w') :
  Calls Tryd.prog 80 #[va,vb] w' fun e w2=>e = .returned (.bool true)/\ah w' w2/\ah w w2:=
 (aeW (ha.below h aH) (hb.below h aH)).mono fun e w2 ⟨e1,b⟩=>⟨by simpa using e1,b,Below.trans' h b h.size⟩
theorem ae4 {na nb:Value} {r0:Int} {xs:List Nd} (ha:bz w na xs) (hb:bz w nb xs) :
  Calls Tryd.prog 51 #[.agg #[na, .int .i64 r0], .agg #[nb, .int .i64 r0]] w fun e w'=>e = .returned (.bool true)/\ah w w':=by
 obtain⟨rs,⟨ao,ca,rfl,a1,a2,a3,a4,a5⟩,ra,rn⟩:=ha
 obtain⟨ss,⟨bo,cb,rfl,b1,b2,b3,b4,b5⟩,sa,sn⟩:=hb
 have hl:ss.length=rs.length:=af
 have RA:=hdd ra
 have SA:=hdd sa
 rw [hl]
 rw [hl]at b1 b3 b5
 clear ra sa hl
 go_enter Tryd.func51,Tryd.ntmps51
 go_wp2_with fail
 go_loopg [5] rs.length (fun g i wr=>∃k:Nat,k<=rs.length/\g=rs.length-k/\i = .int .i64 k/\ah w wr/\w.heap.size+2<=wr.heap.size /\
  wr.cell? ⟨w.heap.size,0,none⟩=some (.slice ao rs.length ca)/\wr.cell? ⟨w.heap.size+1,0,none⟩=some (.slice bo rs.length cb))
 case atStart=>exact⟨0,jd _,rfl,rfl,(by repeat (first|exact aI _ _|assumption|refine cJ ?_ _|refine Below.drew ?_|refine Below.alloc ?_ (by simp <;> omega) _|refine Below.setCell ?_ (by simp <;> omega) _)),bj,by go_simp,by go_simp⟩
 case round=>
  obtain⟨k,hk,rfl,rfl,cZ,hsz,c0,c1⟩:=hrel
  by_cases hlt:k<rs.length
  ·obtain⟨ab,aV,rfl,sO,ac⟩:=a5 af
   obtain⟨bb,ahh,rfl,ub,bc⟩:=b5 af
   obtain⟨r,hr⟩:∃r,rs[k]?=some r:=⟨rs[k],by simp [hlt]⟩
   obtain⟨s,hs⟩:∃s,ss[k]?=some s:=⟨ss[k]'(by have:=SA.out;have:=RA.out;omega),bj⟩
   obtain⟨x,hx⟩:∃x,xs[k]?=some x:=⟨xs[k]'(by have:=RA.out;omega),bj⟩
   obtain⟨p0,p1,p2,p3,p4⟩:=aeD cZ sO ac hr
   obtain⟨q0,q1,q2,q3,q4⟩:=aeD cZ ub bc hs
   obtain⟨rl,rE,rK,rD,rB⟩:=rn k r x hr hx
   obtain⟨sl,sE,sK,sD,sB⟩:=sn k s x hs hx
   have ek:∀w' va vb,(va=r.ev/\vb=s.ev)\/(va=r.bv/\vb=s.bv)->ah w w'->Calls Tryd.prog 79 #[va,vb] w' fun e w2=>e = .returned (.bool true)/\ah w' w2/\ah w w2:=by
    rintro w' va vb (⟨rfl,rfl⟩|⟨rfl,rfl⟩) h
    ·exact afh rE sE h
    ·exact afh rB sB h
   have hcK:∀w' va vb,(va=r.kv/\vb=s.kv)\/(va=r.dv/\vb=s.dv)->ah w w'->Calls Tryd.prog 80 #[va,vb] w' fun e w2=>e = .returned (.bool true)/\ah w' w2/\ah w w2:=by
    rintro w' va vb (⟨rfl,rfl⟩|⟨rfl,rfl⟩) h
    ·exact afg rK sK h
    ·exact afg rD sD h
   obtain⟨f1,g1,h1⟩:=rE.isSlice
   obtain⟨f2,g2,h2⟩:=rK.isSlice
   obtain⟨f3,g3,h3⟩:=rD.isSlice
   obtain⟨f4,g4,h4⟩:=rB.isSlice
   obtain⟨f5,g5,h5⟩:=sE.isSlice
   obtain⟨f6,g6,h6⟩:=sK.isSlice
   obtain⟨f7,g7,h7⟩:=sD.isSlice
   obtain⟨f8,g8,h8⟩:=sB.isSlice
   rw [h1]at p1 ek;rw [h2]at p2 hcK;rw [h3]at p3 hcK;rw [h4]at p4 ek;rw [h5]at q1 ek;rw [h6]at q2 hcK;rw [h7]at q3 hcK;rw [h8]at q4 ek
   have ek:=hdd ek
   have hcK:=hdd hcK
   rw [rl]at p0;rw [sl]at q0
   clear ac bc a5 b5 rn sn rE rK rD rB sE sK sD sB h1 h2 h3 h4 h5 h6 h7 h8 rl sl hr hs hx
   have h01:w.heap.size<wr.heap.size:=af
   have h02:w.heap.size+1<wr.heap.size:=af
   have h03:wr.heap.size≠w.heap.size:=af
   have h04:wr.heap.size≠w.heap.size+1:=af
   have h05:w.heap.size≠wr.heap.size:=af
   have h06:w.heap.size+1≠wr.heap.size:=af
   have h07:wr.heap.size≠bb:=af
   have h08:bb≠wr.heap.size:=af
   have h09:bb<wr.heap.size:=af
   go_wp2_with (first
    |(go_at_call 79;refine(ek.out _ _ _ ?_ ?_).mono ?_;(first|exact .inl ⟨rfl,rfl⟩|exact .inr ⟨rfl,rfl⟩);(exact(by repeat (first|exact aI _ _|assumption|refine cJ ?_ _|refine Below.drew ?_|refine Below.alloc ?_ (by first|omega|(simp;done)|(simp;omega)) _|refine Below.setCell ?_ (by first|omega|(simp;done)|(simp;omega)) _)));rintro e wE ⟨rfl,bE,BE⟩;obtain⟨_,_,_⟩:=nj bE (B:=w.heap.size) (by first|omega|(simp;done)|(simp;omega));obtain⟨_,_,_⟩:=nj bE (B:=w.heap.size+1) (by first|omega|(simp;done)|(simp;omega));obtain⟨_,_,_⟩:=nj bE (B:=wr.heap.size) (by first|omega|(simp;done)|(simp;omega));obtain⟨_,_,_⟩:=nj bE (B:=wr.heap.size+1) (by first|omega|(simp;done)|(simp;omega)))
    |(go_at_call 80;refine(hcK.out _ _ _ ?_ ?_).mono ?_;(first|exact .inl ⟨rfl,rfl⟩|exact .inr ⟨rfl,rfl⟩);(exact(by repeat (first|exact aI _ _|assumption|refine cJ ?_ _|refine Below.drew ?_|refine Below.alloc ?_ (by first|omega|(simp;done)|(simp;omega)) _|refine Below.setCell ?_ (by first|omega|(simp;done)|(simp;omega)) _)));rintro e wE ⟨rfl,bE,BE⟩;obtain⟨_,_,_⟩:=nj bE (B:=w.heap.size) (by first|omega|(simp;done)|(simp;omega));obtain⟨_,_,_⟩:=nj bE (B:=w.heap.size+1) (by first|omega|(simp;done)|(simp;omega));obtain⟨_,_,_⟩:=nj bE (B:=wr.heap.size) (by first|omega|(simp;done)|(simp;omega));obtain⟨_,_,_⟩:=nj bE (B:=wr.heap.size+1) (by first|omega|(simp;done)|(simp;omega))))
   go_roundg (rs.length-(k+1))
   case measure=>omega
   case rel=>exact⟨k+1,af,rfl,by go_num,(by repeat (first|exact aI _ _|assumption|refine cJ ?_ _|refine Below.drew ?_|refine Below.alloc ?_ (by first|omega|(simp;done)|(simp;omega)) _|refine Below.setCell ?_ (by first|omega|(simp;done)|(simp;omega)) _)),af,by go_simp,by go_simp⟩
  ·go_wp2
   go_ret
   exact⟨rfl,(by repeat (first|exact aI _ _|assumption|refine cJ ?_ _|refine Below.drew ?_|refine Below.alloc ?_ (by simp <;> omega) _|refine Below.setCell ?_ (by simp <;> omega) _))⟩
end
section
variable {i:Int} {xs:List Nd} {ab aV n cap j:Nat} {x:Nd} {t:Tr} {nv:Value} {w:World}
theorem dR (h:i=j) (hj:j<n) (w:World):(Instr.indexAt 30 (.slice (some ⟨ab,aV,none⟩) n cap) (.int .i64 i)).run Tryd.prog w = .ok (.pointer (some ⟨ab,aV+j*5,none⟩)) w:=by
 subst h
 go_simp
theorem lQ (h:i=j) (hj:j<n) (w:World):(Instr.indexAt 82 (.slice (some ⟨ab,aV,none⟩) n cap) (.int .i64 i)).run Tryd.prog w = .ok (.pointer (some ⟨ab,aV+j,none⟩)) w:=by
 subst h
 go_simp
theorem dw (h:i=j) (hj:j<n) (w:World):(Instr.indexAt 63 (.slice (some ⟨ab,aV,none⟩) n cap) (.int .i64 i)).run Tryd.prog w = .ok (.pointer (some ⟨ab,aV+j*7,none⟩)) w:=by
 subst h
 go_simp
theorem bz.get (h:bz w nv xs) {i:Nat} (hi:xs[i]?=some x) :
  ∃nb gL cap r,nv = .slice (some ⟨nb,gL,none⟩) xs.length cap/\nb<w.heap.size/\lL w r x /\
   w.cell? ⟨nb,gL+i*5,none⟩=some (.bool r.leaf)/\w.cell? ⟨nb,gL+i*5+1,none⟩=some r.ev/\w.cell? ⟨nb,gL+i*5+2,none⟩=some r.kv/\w.cell? ⟨nb,gL+i*5+3,none⟩=some r.dv/\w.cell? ⟨nb,gL+i*5+4,none⟩=some r.bv:=by
 obtain⟨rs,⟨ao,cap,rfl,h1,h2,h3,h4,h5⟩,hl,hn⟩:=h
 have jS:=(gJ.1 hi).1
 obtain⟨nb,gL,rfl,hb,hc⟩:=h5 af
 have hr:rs[i]?=some (rs[i]'(by omega)):=bj
 have g:=hc i _ hr
 exact⟨nb,gL,cap,rs[i]'(by omega),by rw [hl],hb,hn i _ x hr hi,by simpa using g 0 _ rfl,g 1 _ rfl,g 2 _ rfl,g 3 _ rfl,g 4 _ rfl⟩
theorem bz.len (h:bz w nv xs):(∃ao cap,nv = .slice ao xs.length cap)/\xs.length<=9223372036854775806:=by
 obtain⟨rs,hs,hl,hn⟩:=h
 obtain⟨ao,cap,rfl⟩:=hs.isSlice
 refine⟨⟨ao,cap,by rw [hl]⟩,?_⟩
 obtain⟨_,_,_,_,_,h,_⟩:=hs
 omega
theorem gy.get {v:Value} {xs:List Int} (h:gy w v xs) {i:Nat} {x:Int} (hi:xs[i]?=some x) :
  ∃b off cap,v = .slice (some ⟨b,off,none⟩) xs.length cap/\b<w.heap.size/\w.cell? ⟨b,off+i,none⟩=some (.int .i64 x):=by
 obtain⟨ao,cap,rfl,h1,h2,h3,h4,h5⟩:=h
 have jS:=(gJ.1 hi).1
 obtain⟨nb,gL,rfl,hb,hc⟩:=h5 af
 exact⟨nb,gL,cap,rfl,hb,by simpa using hc i x hi 0 _ rfl⟩
theorem dK.len {α:Type} {k sz:Nat} {en:α->List Value} {v:Value} {xs:List α} (h:dK k sz en w v xs) (hsz:0<sz):xs.length<=140737488351232:=by
 obtain⟨ao,cap,rfl,h1,h2,h3,h4,h5⟩:=h
 have:xs.length*1<=xs.length*sz:=Nat.mul_le_mul_left _ hsz
 omega
theorem uY {n:Int} (h:t.dh n=some x):0<=n/\n.toNat<t.nodes.length/\t.nodes[n.toNat]?=some x:=by
 unfold Tr.dh at h
 split at h
 ·exact⟨‹_›,(gJ.1 h).1,h⟩
 ·cases h
theorem NF {n:Int} (h:t.dh n=none):n<0\/(t.nodes.length:Int)<=n:=by
 unfold Tr.dh at h
 split at h
 ·have:=List.getElem?_eq_none_iff.1 h;omega
 ·omega
end
section
set_option maxRecDepth 100000
set_option maxHeartbeats 600000
variable {e:Ending} {B:Nat} {w w':World}
def af9 (B:Nat) (w:World) (r:Option (List aC)) (e:Ending) (w':World):Prop:=
 Below B w w'/\(match r with|none=>e = .returned (.tuple #[.slice none 0 0, .int .i64 1])|some l=>∃v',e = .returned (.tuple #[v', .int .i64 0])/\au B w' v' l)
theorem agO (hb:Below B w w') (he:e = .returned (.tuple #[.slice none 0 0, .int .i64 1])):af9 B w none e w':=⟨hb,he⟩
theorem aeY {l:List aC} {v':Value} (hb:Below B w w') (he:e = .returned (.tuple #[v', .int .i64 0])) (ho:au B w' v' l):af9 B w (some l) e w':=⟨hb,v',he,ho⟩
theorem vI {W w5:World} {T:TypeId} (BE:Below (W.alloc (.cells #[.int .i64 0, .int .i64 0, .int .i64 0, .int .i64 0, .int .i64 0, .int .i64 0] T)).drew.heap.size (W.alloc (.cells #[.int .i64 0, .int .i64 0, .int .i64 0, .int .i64 0, .int .i64 0, .int .i64 0] T)).drew w5) :
  w5.heap[W.heap.size]?=some (.cells #[.int .i64 0, .int .i64 0, .int .i64 0, .int .i64 0, .int .i64 0, .int .i64 0] T)/\w5.cell? ⟨W.heap.size,0,none⟩=some (.int .i64 0)/\w5.cell? ⟨W.heap.size,1,none⟩=some (.int .i64 0)/\w5.cell? ⟨W.heap.size,2,none⟩=some (.int .i64 0)/\w5.cell? ⟨W.heap.size,3,none⟩=some (.int .i64 0)/\w5.cell? ⟨W.heap.size,4,none⟩=some (.int .i64 0)/\w5.cell? ⟨W.heap.size,5,none⟩=some (.int .i64 0)/\∀o,w5.frozen? ⟨W.heap.size,o,none⟩=false:=by
 have h:w5.heap[W.heap.size]?=some (.cells #[.int .i64 0, .int .i64 0, .int .i64 0, .int .i64 0, .int .i64 0, .int .i64 0] T):=(BE.block _ bj).trans (aj _ _ rfl)
 simp [h,World.cell?,World.frozen?]
theorem adY {v:Value} {xs:List aC} {x:aC} (ha:fu w v xs) (hc:∀e∈xs,aq e.is=0) (hx:aq x.is=0) (hlen:xs.length<=100000) :
  Calls Tryd.prog 48 #[v, .agg #[.int .i64 x.key, .int .i64 x.is.c, .int .i64 x.is.s, .int .i64 x.is.mi, .int .i64 x.is.ma, .int .i64 x.is.t, .int .i64 x.is.l]] w (af9 w.heap.size w (jI xs x)):=by
 obtain⟨ao,ca,rfl,a1,a2,a3,a4,a5⟩:=ha
 obtain⟨W0,hW0⟩:=bP (w.alloc (.cells #[.int .i64 x.key, .int .i64 x.is.c, .int .i64 x.is.s, .int .i64 x.is.mi, .int .i64 x.is.ma, .int .i64 x.is.t, .int .i64 x.is.l] 96))
 have hb0:ah w W0:=by rw [hW0];exact(aI _ _).alloc aH _
 have hz0:W0.heap.size=w.heap.size+1:=by rw [hW0];simp
 have k0:W0.heap[w.heap.size]?=some (.cells #[.int .i64 x.key, .int .i64 x.is.c, .int .i64 x.is.s, .int .i64 x.is.mi, .int .i64 x.is.ma, .int .i64 x.is.t, .int .i64 x.is.l] 96):=by
  rw [hW0];exact aj _ _ rfl
 have HX:=hdd fun w' (hb:Below (w.heap.size+1) W0 w')=>(by
  have b0:w'.heap[w.heap.size]?=_:=(hb.block _ af).trans k0
  simp [World.cell?,b0] :
  w'.cell? ⟨w.heap.size,0,none⟩=some (.int .i64 x.key)/\w'.cell? ⟨w.heap.size,1,none⟩=some (.int .i64 x.is.c)/\w'.cell? ⟨w.heap.size,2,none⟩=some (.int .i64 x.is.s)/\w'.cell? ⟨w.heap.size,3,none⟩=some (.int .i64 x.is.mi)/\w'.cell? ⟨w.heap.size,4,none⟩=some (.int .i64 x.is.ma)/\w'.cell? ⟨w.heap.size,5,none⟩=some (.int .i64 x.is.t)/\w'.cell? ⟨w.heap.size,6,none⟩=some (.int .i64 x.is.l))
 have HB:=hdd fun w' (hb:Below (w.heap.size+1) W0 w')=>(Below.trans' hb0 (hb.mono af) af:ah w w')
 have hbW:=hdd (aI (w.heap.size+1) W0)
 go_enter Tryd.func48,Tryd.ntmps48
 go_wp2_with fail
 rw [<-hW0]
 clear hW0 k0
 go_loopg [6,7,8] xs.length (fun g out dn i wr=>∃(k:Nat) (b:Bool) (es:List aC),k<=xs.length/\g=xs.length-k/\i = .int .i64 k/\dn = .bool b/\au (w.heap.size+1) wr out es/\Hid (adK xs x k b es)/\Below (w.heap.size+1) W0 wr)
 case atStart=>exact⟨0,false,[],jd _,rfl,rfl,rfl,au.nil _ _,hdd (afc xs x),hbW.out⟩
 case round=>
  obtain⟨k,b,es,hk,rfl,rfl,rfl,hown,Ie,ahx⟩:=hrel
  obtain⟨so,sc,rfl⟩:=hown.isSlice
  have cZ:=HB.out _ ahx
  have hsz:w.heap.size+1<=wr.heap.size:=by have:=ahx.size;omega
  have hes:es.length<=1000000:=by have:=Ie.out.1;omega
  by_cases hlt:k<xs.length
  ·obtain⟨ab,aV,rfl,sO,ac⟩:=a5 af
   obtain⟨e,he⟩:=bt (xs[k])
   have HE:=hdd he
   have H3:=hdd (show aq e.is=0 by rw [<-he];exact hc _ (fP hlt))
   have HK:=hdd fun w' (hb:Below (w.heap.size+1) W0 w')=>(by have:=bU (HB.out _ hb) sO ac hlt;rw [he]at this;exact this :
    w'.cell? ⟨ab,aV+k*7,none⟩=some (.int .i64 e.key)/\w'.cell? ⟨ab,aV+k*7+1,none⟩=some (.int .i64 e.is.c)/\w'.cell? ⟨ab,aV+k*7+2,none⟩=some (.int .i64 e.is.s)/\w'.cell? ⟨ab,aV+k*7+3,none⟩=some (.int .i64 e.is.mi)/\w'.cell? ⟨ab,aV+k*7+4,none⟩=some (.int .i64 e.is.ma)/\w'.cell? ⟨ab,aV+k*7+5,none⟩=some (.int .i64 e.is.t)/\w'.cell? ⟨ab,aV+k*7+6,none⟩=some (.int .i64 e.is.l))
   obtain⟨c0,c1,c2,c3,c4,c5,c6⟩:=HK.out _ ahx
   obtain⟨x0,x1,x2,x3,x4,x5,x6⟩:=HX.out _ ahx
   clear he ac a5 hc
   cases b with
   |true=>
    go_wp2_with fail
    go_quiet (fail)
    go_wp2_with ((at_builtin;refine eW rfl (.tmp 62) (.tmp 67) rfl (w.heap.size+1) _ es rfl (by repeat (first|assumption|with_reducible refine au.alloc ?_ _|with_reducible refine au.drewN ?_ _|with_reducible refine au.drew ?_)) ⟨_,0,none⟩ e rfl (fun j u h=>mO h) hes (by first|omega|(simp;done)|(simp;omega)|(simp [aJ];done)|(simp [aJ];omega)) ?_;intro v3 w3 uq hg3;have hb3:=hg3 (w.heap.size+1) W0 ag aH))
    go_roundg (xs.length-(k+1))
    case measure=>omega
    case rel=>exact⟨k+1,true,es++[e],af,rfl,by go_num,rfl,uq,hdd (by rw [<-HE.out];exact afp hlt Ie.out),hb3⟩
   |false=>
    by_cases h1:e.key<x.key
    ·have d1:decide (x.key<=e.key)=false:=by simpa using h1
     go_wp2_with fail
     go_quiet (fail)
     go_wp2_with ((at_builtin;refine eW rfl (.tmp 62) (.tmp 67) rfl (w.heap.size+1) _ es rfl (by repeat (first|assumption|with_reducible refine au.alloc ?_ _|with_reducible refine au.drewN ?_ _|with_reducible refine au.drew ?_)) ⟨_,0,none⟩ e rfl (fun j u h=>mO h) hes (by first|omega|(simp;done)|(simp;omega)|(simp [aJ];done)|(simp [aJ];omega)) ?_;intro v3 w3 uq hg3;have hb3:=hg3 (w.heap.size+1) W0 ag aH))
     go_roundg (xs.length-(k+1))
     case measure=>omega
     case rel=>exact⟨k+1,false,es++[e],af,rfl,by go_num,rfl,uq,hdd (by rw [<-HE.out];exact afn hlt Ie.out (by rw [HE.out];exact h1)),hb3⟩
    ·have d1:decide (x.key<=e.key)=true:=by simpa using h1
     by_cases h2:e.key=x.key
     ·have agr:=hdd (afl hlt Ie.out (by rw [HE.out];exact h2))
      have d2:(e.key == x.key)=true:=by simp [h2]
      rw [HE.out]at agr
      obtain⟨J,E,G8⟩:∃J E,bH e.is x.is=(J,E):=⟨_,_,rfl⟩
      have HM:=hdd fun w'=>(by have:=afq e.is x.is w';rw [G8]at this;exact this :
       Calls Tryd.prog 78 #[.agg #[.int .i64 e.is.c, .int .i64 e.is.s, .int .i64 e.is.mi, .int .i64 e.is.ma, .int .i64 e.is.t, .int .i64 e.is.l], .agg #[.int .i64 x.is.c, .int .i64 x.is.s, .int .i64 x.is.mi, .int .i64 x.is.ma, .int .i64 x.is.t, .int .i64 x.is.l]] w' fun e' w5=>e' = .returned (.tuple #[.agg #[.int .i64 J.c, .int .i64 J.s, .int .i64 J.mi, .int .i64 J.ma, .int .i64 J.t, .int .i64 J.l], .int .i64 E])/\ah w' w5)
      have C2:=hdd G8
      clear G8
      go_wp2_with fail
      go_quiet (fail)
      go_upto_region 8 with (fail)
      go_cut [36] (fun c wx=>c = .bool true/\au (w.heap.size+1) wx (.slice so es.length sc) es/\Below (w.heap.size+1) W0 wx)
      case first=>
       go_quiet (fail)
       go_wp2
       go_meet
       exact⟨rfl,(by repeat (first|assumption|with_reducible refine au.alloc ?_ _|with_reducible refine au.drewN ?_ _|with_reducible refine au.drew ?_)),ag⟩
      case rest=>
       obtain⟨rfl,abg,kS⟩:=hcut
       clear c0 c1 c2 c3 c4 c5 c6 x0 x1 x2 x3 x4 x5 x6
       obtain⟨W8,mM⟩:=bP (wc)
       subst mM
       have aag:w.heap.size+1<=W8.heap.size:=by have:=kS.size;omega
       have Yk:=hdd fun w' (hb:ah W8 w')=>(Below.trans' kS hb aag:Below (w.heap.size+1) W0 w')
       have HO8:=hdd fun w' (hb:ah W8 w')=>abg.below hb aH
       have HS:=hdd fun w' (hb:ah W8 w')=>(by
        obtain⟨-,y1,y2,y3,y4,y5,y6⟩:=HK.out w' (Yk.out _ hb)
        exact⟨y1,y2,y3,y4,y5,y6,(HX.out w' (Yk.out _ hb)).2⟩ :
        w'.cell? ⟨ab,aV+k*7+1,none⟩=some (.int .i64 e.is.c)/\w'.cell? ⟨ab,aV+k*7+2,none⟩=some (.int .i64 e.is.s)/\w'.cell? ⟨ab,aV+k*7+3,none⟩=some (.int .i64 e.is.mi)/\w'.cell? ⟨ab,aV+k*7+4,none⟩=some (.int .i64 e.is.ma)/\w'.cell? ⟨ab,aV+k*7+5,none⟩=some (.int .i64 e.is.t)/\w'.cell? ⟨ab,aV+k*7+6,none⟩=some (.int .i64 e.is.l)/\w'.cell? ⟨w.heap.size,1,none⟩=some (.int .i64 x.is.c)/\w'.cell? ⟨w.heap.size,2,none⟩=some (.int .i64 x.is.s)/\w'.cell? ⟨w.heap.size,3,none⟩=some (.int .i64 x.is.mi)/\w'.cell? ⟨w.heap.size,4,none⟩=some (.int .i64 x.is.ma)/\w'.cell? ⟨w.heap.size,5,none⟩=some (.int .i64 x.is.t)/\w'.cell? ⟨w.heap.size,6,none⟩=some (.int .i64 x.is.l))
       have b0:ah W8 W8.drew:=(aI _ _).drew
       have hs0:=HS.out _ b0
       clear abg kS hown ahx cZ
       go_upto_region 9 with (fail)
       go_cut [9,10] (fun p c wx=>∃g:Nat,p = .pointer (some ⟨g,0,none⟩)/\c = .int .i64 E/\wx.heap[g]?=some (.cells #[.int .i64 J.c, .int .i64 J.s, .int .i64 J.mi, .int .i64 J.ma, .int .i64 J.t, .int .i64 J.l] 42)/\au (w.heap.size+1) wx (.slice so es.length sc) es/\Below (w.heap.size+1) W0 wx)
       case first=>
        go_region_held3 (fun w'=>w'.cell? ⟨ab,aV+k*7+1,none⟩=some (.int .i64 e.is.c)/\w'.cell? ⟨ab,aV+k*7+2,none⟩=some (.int .i64 e.is.s)/\w'.cell? ⟨ab,aV+k*7+3,none⟩=some (.int .i64 e.is.mi)/\w'.cell? ⟨ab,aV+k*7+4,none⟩=some (.int .i64 e.is.ma)/\w'.cell? ⟨ab,aV+k*7+5,none⟩=some (.int .i64 e.is.t)/\w'.cell? ⟨ab,aV+k*7+6,none⟩=some (.int .i64 e.is.l)/\w'.cell? ⟨w.heap.size,1,none⟩=some (.int .i64 x.is.c)/\w'.cell? ⟨w.heap.size,2,none⟩=some (.int .i64 x.is.s)/\w'.cell? ⟨w.heap.size,3,none⟩=some (.int .i64 x.is.mi)/\w'.cell? ⟨w.heap.size,4,none⟩=some (.int .i64 x.is.ma)/\w'.cell? ⟨w.heap.size,5,none⟩=some (.int .i64 x.is.t)/\w'.cell? ⟨w.heap.size,6,none⟩=some (.int .i64 x.is.l))
         (first|with_reducible exact hs0|(with_reducible refine HS.out _ ?_;exact ag))
         (first
          |(go_at_call 78;(with_reducible refine(HM.out _).mono ?_);rintro e' w5 ⟨rfl,BE⟩;guard_hyp BE:Below W8.drew.heap.size W8.drew w5;have cu:ah W8 w5:=Below.trans' (show ah W8 _ from ag) BE (by first|omega|(simp;done)|(simp;omega)|(simp [aJ];done)|(simp [aJ];omega));have MC:=cu.size)
          |(go_at_call 78;(with_reducible refine(HM.out _).mono ?_);rintro e' w5 ⟨rfl,BE⟩;obtain⟨q5,z0,z1,z2,z3,z4,z5,zf⟩:=vI BE;have cu:ah W8 w5:=Below.trans' (show ah W8 _ from ag) BE (by first|omega|(simp;done)|(simp;omega)|(simp [aJ];done)|(simp [aJ];omega));have MC:=cu.size))
        all_goals
         go_wp2_with fail
         go_meet
         refine⟨_,rfl,rfl,?_,?_,?_⟩
         ·first
          |with_reducible exact aj _ _ rfl
          |with_reducible exact jT q5
         ·exact HO8.out _ ag
         ·exact Yk.out _ ag
       case rest=>
        obtain⟨g,rfl,rfl,hg,IZ,pS⟩:=hcut
        have Sp:w.heap.size+1<=wc.heap.size:=by have:=pS.size;omega
        obtain⟨j0,j1,j2,j3,j4,j5⟩:wc.cell? ⟨g,0,none⟩=some (.int .i64 J.c)/\wc.cell? ⟨g,1,none⟩=some (.int .i64 J.s)/\wc.cell? ⟨g,2,none⟩=some (.int .i64 J.mi)/\wc.cell? ⟨g,3,none⟩=some (.int .i64 J.ma)/\wc.cell? ⟨g,4,none⟩=some (.int .i64 J.t)/\wc.cell? ⟨g,5,none⟩=some (.int .i64 J.l):=by simp [World.cell?,hg]
        obtain⟨x0,-⟩:=HX.out _ pS
        by_cases hcc:e.is.c+x.is.c<=1073741824
        ·have hj:(J,E)=_:=C2.out.symm.trans (qU H3.out hx hcc).1
         obtain⟨rfl,rfl⟩:=Prod.mk.inj hj
         have N6:=hdd (agr.out.1 hcc)
         generalize e.is.join x.is=J at *
         clear hj hcc agr C2
         go_wp2_with ((at_builtin;refine eW rfl (.tmp 51) (.tmp 56) rfl (w.heap.size+1) _ es rfl (by repeat (first|assumption|with_reducible refine au.alloc ?_ _|with_reducible refine au.drewN ?_ _|with_reducible refine au.drew ?_)) ⟨_,0,none⟩ ⟨x.key,J⟩ rfl (fun j u h=>mO h) hes (by first|omega|(simp;done)|(simp;omega)|(simp [aJ];done)|(simp [aJ];omega)) ?_;intro v3 w3 uq hg3;have hb3:=hg3 (w.heap.size+1) W0 ag aH))
         go_roundg (xs.length-(k+1))
         case measure=>omega
         case rel=>exact⟨k+1,true,es++[⟨x.key,J⟩],af,rfl,by go_num,rfl,uq,N6,hb3⟩
        ·have hj:(J,E)=_:=C2.out.symm.trans ((iO H3.out hx).trans (ai hcc))
         obtain⟨rfl,rfl⟩:=Prod.mk.inj hj
         have HR:=hdd (agr.out.2 af)
         clear hj hcc agr C2
         go_wp2
         go_ret2
         rw [HR.out]
         exact agO (HB.out _ pS) rfl
     ·have d2:(e.key == x.key)=false:=by simp [h2]
      have N6:=hdd (by have:=afm hlt Ie.out (by rw [HE.out];omega);rwa [HE.out]at this:adK xs x (k+1) true (es++[x]++[e]))
      have akK:(es++[x]).length<=1000000:=by have:=Ie.out.1;simp;omega
      go_wp2_with fail
      go_quiet (fail)
      go_wp2_with fail
      go_quiet (fail)
      go_wp2_with (first
       |(at_builtin;refine eW rfl (.tmp 58) (.tmp 60) rfl (w.heap.size+1) _ es rfl (by repeat (first|assumption|with_reducible refine au.alloc ?_ _|with_reducible refine au.drewN ?_ _|with_reducible refine au.drew ?_)) ⟨_,0,none⟩ x rfl (fun j u h=>mO h) hes (by first|omega|(simp;done)|(simp;omega)|(simp [aJ];done)|(simp [aJ];omega)) ?_;intro v3 w3 uq hg3;have hb3:=hg3 (w.heap.size+1) W0 ag aH;obtain⟨y0,y1,y2,y3,y4,y5,y6⟩:=HK.out _ hb3;have ap4:w.heap.size+1<=w3.heap.size:=(by have:=hb3.size;omega))
       |(at_builtin;refine eW rfl (.tmp 62) (.tmp 67) rfl (w.heap.size+1) _ (es++[x]) rfl (by repeat (first|assumption|with_reducible refine au.alloc ?_ _|with_reducible refine au.drewN ?_ _|with_reducible refine au.drew ?_)) ⟨_,0,none⟩ e rfl (fun j u h=>mO h) akK (by first|omega|(simp;done)|(simp;omega)|(simp [aJ];done)|(simp [aJ];omega)) ?_;intro v4 w4 pN hg3;have hb4:=hg3 (w.heap.size+1) W0 ag aH))
      go_roundg (xs.length-(k+1))
      case measure=>omega
      case rel=>exact⟨k+1,true,es++[x]++[e],af,rfl,by go_num,rfl,pN,N6,hb4⟩
  ·have hkn:xs.length<=k:=af
   clear a5 hc
   cases b with
   |true=>
    have HR:=hdd ((aeN hkn).1 Ie.out)
    go_wp2
    go_ret2
    rw [HR.out]
    exact aeY cZ rfl (hown.mono af)
   |false=>
    have HR:=hdd ((aeN hkn).2 Ie.out)
    obtain⟨x0,x1,x2,x3,x4,x5,x6⟩:=HX.out _ ahx
    go_wp2_with ((at_builtin;refine eW rfl (.tmp 71) (.tmp 73) rfl (w.heap.size+1) _ es rfl (by repeat (first|assumption|with_reducible refine au.alloc ?_ _|with_reducible refine au.drewN ?_ _|with_reducible refine au.drew ?_)) ⟨_,0,none⟩ x rfl (fun j u h=>mO h) hes (by first|omega|(simp;done)|(simp;omega)|(simp [aJ];done)|(simp [aJ];omega)) ?_;intro v3 w3 uq hg3;have hb3:=hg3 (w.heap.size+1) W0 ag aH))
    go_ret2
    rw [HR.out]
    exact aeY (HB.out _ hb3) rfl (uq.mono af)
end
section
set_option maxRecDepth 100000
set_option maxHeartbeats 1000000
variable {l:List aC} {k:Nat}
def Qp (B:Nat) (w:World) (r:Option (List aC)) (e:Ending) (w':World):Prop:=
 Below B w w'/\(match r with|none=>e = .returned (.tuple #[.slice none 0 0, .bool false])|some l=>∃v',e = .returned (.tuple #[v', .bool true])/\au B w' v' l)
theorem afN {size:Int} {es:List aC} (hk:k<l.length) (h:fe ((l.take k).map (bucket size))=some es):fe ((l.take (k+1)).map (bucket size))=jI es (bucket size l[k]):=by
 rw [kK hk,Ap,List.map_cons,List.map_nil,BW,h];rfl
theorem afM {size:Int} (h:fe ((l.take k).map (bucket size))=none):bW l size=none:=by
 unfold bW
 conv=>lhs;rw [<-wL k l,Ap]
 exact BX h
theorem ae1 {v:Value} {size:Int} {w:World} (h:fu w v l) (hg:dX l) (hs:0<size) (hs2:size<=3600) :
  Calls Tryd.prog 49 #[v, .int .i64 size] w (Qp w.heap.size w (bW l size)):=by
 obtain⟨ao,cap,rfl⟩:=h.isSlice
 have HE:=hdd h
 have HG:=hdd hg
 have hlen:l.length<=50000:=hg.2.2
 clear h hg
 go_enter Tryd.func49,Tryd.ntmps49
 go_wp2_with fail
 go_loopg [6,7] l.length (fun g out i wr=>∃(k:Nat) (es:List aC),k<=l.length/\g=l.length-k/\i = .int .i64 k/\au w.heap.size wr out es/\Hid (fe ((l.take k).map (bucket size))=some es)/\ah w wr)
 case atStart=>exact⟨0,[],jd _,rfl,rfl,au.nil _ _,hdd rfl,aI _ _⟩
 case round=>
  obtain⟨k,es,hk,rfl,rfl,hown,HR,hb⟩:=hrel
  obtain⟨so,sc,rfl⟩:=hown.isSlice
  have hsz:=hb.size
  by_cases hlt:k<l.length
  ·obtain⟨_,_,hv,-,-,-,-,h5⟩:=HE.out
   injection hv with hv1 _ hv3
   subst hv1 hv3
   obtain⟨eb,eB,lA,si,nE⟩:=h5 af
   subst lA
   obtain⟨y0,y1,y2,y3,y4,y5,y6⟩:=bU hb si nE hlt
   obtain⟨y,hy⟩:=bt (l[k])
   rw [hy]at y0 y1 y2 y3 y4 y5 y6
   have C7:y∈l:=by rw [<-hy];exact fP hlt
   have rL:=hdd (afN (size:=size) hlt HR.out)
   rw [hy]at rL
   obtain⟨im,hk1⟩:=HG.out.2.1 y C7
   have hbr:=pZ hs (HG.out.2.1 y C7)
   obtain⟨M,hM⟩:=bt (y.key%1048576)
   obtain⟨R,hR⟩:=bt (M%size)
   have Lb:0<=M/\M<1048576:=af
   have hR0:0<=R/\R<size:=by rw [<-hR];exact⟨Int.emod_nonneg _ af,Int.emod_lt_of_pos _ hs⟩
   have m1:y.key.tmod 1048576=M:=by rw [yj im];exact hM
   have m2:M.tmod size=R:=by rw [yj Lb.1];exact hR
   have m3:IntKind.i64.wrap M=M:=IntWalk.i64_in _ af
   have m4:IntKind.i64.wrap R=R:=IntWalk.i64_in _ af
   have hbk:bucket size y=⟨y.key-R,y.is⟩:=by simp [bucket,hM,hR]
   rw [hbk]at rL hbr
   have m5:IntKind.i64.wrap (y.key-R)=y.key-R:=IntWalk.i64_in _ (by have:=hbr.1;have:=hbr.2;simp only at *;omega)
   obtain⟨P,hP⟩:=bt (y.key-R)
   rw [hP]at m5 rL
   have Im:=hdd (eu hs HG.out)
   obtain⟨g1,g2,g3,g4⟩:=pL (P:=(l.take k).map (bucket size)) (by have:=Im.out;rw [<-wL k l,Ap]at this;exact this.left) HR.out
   have jS:=fun w'=>dw (ab:=eb) (aV:=eB) (n:=l.length) (cap:=cap) (show (k:Int)=((k:Nat):Int) by rfl) hlt w'
   have HW:=hdd fun w' (hb':ah wr w')=>adY (v:= .slice so es.length sc) (xs:=es) (x:=⟨P,y.is⟩) (w:=w') ((hown.below hb' aH).at af) g2 (HG.out.1 y C7).2 af
   have hwz:eb<wr.heap.size:=af
   have hs0:(size == 0)=false:=by simp;omega
   clear nE h5 hy C7 hbr hM hR Lb hR0 hbk g1 g2 g3 g4
   go_upto_region 6 with (fail)
   go_cut [9] (fun p wx=>p = .pointer (some ⟨wr.heap.size,0,none⟩)/\wx.heap[wr.heap.size]?=some (.cells #[.int .i64 P, .int .i64 y.is.c, .int .i64 y.is.s, .int .i64 y.is.mi, .int .i64 y.is.ma, .int .i64 y.is.t, .int .i64 y.is.l] 96)/\ah wr wx)
   case first=>
    go_region
    all_goals
     go_wp2
     go_meet
     refine⟨rfl,?_,ag⟩
     with_reducible refine af4 ?_
     with_reducible exact aj _ _ rfl
   case rest=>
    obtain⟨rfl,k8,hbc⟩:=hcut
    obtain⟨s0,s1,s2,s3,s4,s5,s6⟩:wc.cell? ⟨wr.heap.size,0,none⟩=some (.int .i64 P)/\wc.cell? ⟨wr.heap.size,1,none⟩=some (.int .i64 y.is.c)/\wc.cell? ⟨wr.heap.size,2,none⟩=some (.int .i64 y.is.s)/\wc.cell? ⟨wr.heap.size,3,none⟩=some (.int .i64 y.is.mi)/\wc.cell? ⟨wr.heap.size,4,none⟩=some (.int .i64 y.is.ma)/\wc.cell? ⟨wr.heap.size,5,none⟩=some (.int .i64 y.is.t)/\wc.cell? ⟨wr.heap.size,6,none⟩=some (.int .i64 y.is.l):=by simp [World.cell?,k8]
    have fo:=hdd (HW.out wc hbc)
    have hb2:=Below.trans' hb hbc hsz
    have hz2:=hbc.size
    clear y0 y1 y2 y3 y4 y5 y6 k8 jS
    cases hI:jI es ⟨P,y.is⟩ with
    |none=>
     have HN:=hdd (show bW l size=none from afM (k:=k+1) (by rw [rL.out];exact hI))
     rw [hI]at fo
     clear hI
     go_wp2_with ((go_at_call 48;(with_reducible refine fo.out.mono ?_);rintro e w6 ⟨jf,rfl⟩;have cZ:=Below.trans' hb2 jf af))
     go_ret2
     rw [HN.out]
     exact⟨cZ,rfl⟩
    |some es'=>
     have HN:=hdd (show fe ((l.take (k+1)).map (bucket size))=some es' by rw [rL.out];exact hI)
     rw [hI]at fo
     clear hI
     go_wp2_with ((go_at_call 48;(with_reducible refine fo.out.mono ?_);rintro e w6 ⟨jf,v6,rfl,CE⟩;have cZ:=Below.trans' hb2 jf af;obtain⟨s6,c6,rfl⟩:=CE.isSlice))
     go_roundg (l.length-(k+1))
     case measure=>omega
     case rel=>exact⟨k+1,es',af,rfl,by go_num,CE.mono af,HN,cZ⟩
  ·have HN:=hdd (show bW l size=some es by
    have:=HR.out
    rw [lI af]at this
    exact this)
   go_wp2
   go_ret2
   rw [HN.out]
   exact⟨hb,_,rfl,hown⟩
end
section
set_option maxRecDepth 100000
set_option maxHeartbeats 2000000
theorem ae3 {r:aw} {W w:World} (hb:ah W w):Calls Tryd.prog 99 #[.agg #[.int .i64 r.c, .int .i64 r.s, .int .i64 r.mi, .int .i64 r.ma, .int .i64 r.t, .int .i64 r.l]] w fun e w'=>e = .returned (.int .i64 (aq r))/\ah W w':=
 (adZ r w).mono fun e w' ⟨h1,h2⟩=>⟨h1,by rw [<-h2];exact hb.alloc hb.size _⟩
theorem ahI {ab aV n cap j:Nat} {i:Int} (h:i=j) (hj:j<n) (w:World):(Instr.indexAt 63 (.slice (some ⟨ab,aV,none⟩) n cap) (.int .i64 i)).run Tryd.prog w = .ok (.pointer (some ⟨ab,aV+j*7,none⟩)) w:=by
 subst h
 go_simp
theorem ah6 {v:Value} {xs:List aC} {lo hi:Int} {w:World} (ha:fu w v xs) (hhi : -9223372036854775808<hi) (apu:hi<=9223372036854775807) :
  Calls Tryd.prog 128 #[v, .int .i64 lo, .int .i64 hi] w fun e w'=>e = .returned (.bool (qu xs lo hi))/\ah w w':=by
 obtain⟨ao,ca,rfl,a1,a2,a3,a4,a5⟩:=ha
 ·have hwr:IntKind.i64.wrap (hi-1)=hi-1:=IntWalk.i64_in _ af
  go_enter Tryd.func128,Tryd.ntmps128
  go_wp2_with fail
  go_loopg [7] xs.length (fun g i wr=>∃k:Nat,k<=xs.length/\g=xs.length-k/\i = .int .i64 k/\Hid (dB (xs.take k) lo hi)/\ah w wr)
  case atStart=>exact⟨0,jd _,rfl,rfl,hdd (by simpa using tJ lo hi),aI _ _⟩
  case round=>
   obtain⟨k,hk,rfl,rfl,HE,cZ⟩:=hrel
   have hbz:=cZ.size
   by_cases hlt:k<xs.length
   ·obtain⟨ab,aV,rfl,sO,ac⟩:=a5 af
    obtain⟨c0,c1,c2,c3,c4,c5,c6⟩:=bU cZ sO ac hlt
    obtain⟨p,hp⟩:∃p:Int,∀im:0<k,wr.cell? ⟨ab,aV+(k-1)*7,none⟩=some (.int .i64 p)/\xs[k-1].key=p:=by
     by_cases im:0<k
     ·obtain⟨q0,-⟩:=bU cZ sO ac (show k-1<xs.length by omega)
      exact⟨_,fun _=>⟨q0,rfl⟩⟩
     ·exact⟨0,fun h=>absurd h im⟩
    obtain⟨e,he⟩:=bt (xs[k])
    rw [he]at c0 c1 c2 c3 c4 c5 c6
    have EE:=hdd he
    clear ac a5
    by_cases hok:lo<=e.key/\e.key<hi/\e.is.c≠0/\aq e.is=0
    ·obtain⟨o1,o2,o4,o5⟩:=hok
     have d1:av e.key lo (hi-1)=true:=acY.2 ⟨o1,af⟩
     have d5:(e.is.c == 0)=false:=by simpa using o4
     have d6:(aq e.is != 0)=false:=by simp [o5]
     have HS:=hdd fun(h3:∀im:0<k,p<e.key)=>EO hlt HE.out (by rw [he];exact o1) (by rw [he];exact o2) (fun h0=>by rw [he,(hp h0).2];exact h3 h0) (by rw [he];exact o4) (by rw [he];exact o5)
     have HF:=hdd fun(h3:∃im:0<k,e.key<=p)=>xH.2 fun(h:dB xs lo hi)=>by
      obtain⟨h0,h3⟩:=h3
      have:=(BQ h hlt).2.2.2.2 h0
      rw [he,(hp h0).2]at this;omega
     have HP:=hdd hp
     clear he hp o4 o5
     by_cases g3:0<k
     ·have d3:decide ((0:Int)<k)=true:=by simpa using g3
      obtain⟨q0,-⟩:=HP.out g3
      have aic:∀w1,ah w w1->w1.cell? ⟨ab,aV+(k-1)*7,none⟩=some (.int .i64 p)/\w1.cell? ⟨ab,aV+k*7,none⟩=some (.int .i64 e.key):=fun w1 hb=>
       ⟨((hb.cell (p:=⟨ab,_,none⟩) sO).trans (cZ.cell (p:=⟨ab,_,none⟩) sO).symm).trans q0,((hb.cell (p:=⟨ab,_,none⟩) sO).trans (cZ.cell (p:=⟨ab,_,none⟩) sO).symm).trans c0⟩
      have KP:=hdd aic
      have jS:=fun w=>ahI (ab:=ab) (aV:=aV) (n:=xs.length) (cap:=ca) (show (k:Int)-1=((k-1:Nat):Int) by omega) af w
      have hw1:IntKind.i64.wrap ((k:Int)-1)=(k:Int)-1:=IntWalk.i64_in _ af
      clear aic
      by_cases g4:e.key<=p
      ·have d4:decide (e.key<=p)=true:=by simpa using g4
       have hxy:=HF.out ⟨g3,g4⟩
       go_wp2_with (first
       |(go_at_call 76;refine(ac2 _ _ _ _).mono ?_;rintro e w' ⟨rfl,rfl⟩)
       |(go_at_call 99;refine(ae3 (W:=w) (r:=e.is) ?_).mono ?_;(exact(by repeat (first|exact aI _ _|assumption|refine cJ ?_ _|refine Below.drew ?_|refine Below.alloc ?_ (by first|omega|(simp;done)|(simp;omega)) _|refine Below.setCell ?_ (by first|omega|(simp;done)|(simp;omega)) _)));rintro e' w1 ⟨rfl,BE⟩;obtain⟨q1,q2⟩:=KP.out _ BE))
       go_quiet (fail)
       go_wp2
       go_ret
       exact⟨dP hxy.symm,(by repeat (first|exact aI _ _|assumption|refine cJ ?_ _|refine Below.drew ?_|refine Below.alloc ?_ (by first|omega|(simp;done)|(simp;omega)) _|refine Below.setCell ?_ (by first|omega|(simp;done)|(simp;omega)) _))⟩
      ·have d4:decide (e.key<=p)=false:=by simpa using g4
       have zz:=hdd (HS.out fun _=>af)
       go_wp2_with (first
       |(go_at_call 76;refine(ac2 _ _ _ _).mono ?_;rintro e w' ⟨rfl,rfl⟩)
       |(go_at_call 99;refine(ae3 (W:=w) (r:=e.is) ?_).mono ?_;(exact(by repeat (first|exact aI _ _|assumption|refine cJ ?_ _|refine Below.drew ?_|refine Below.alloc ?_ (by first|omega|(simp;done)|(simp;omega)) _|refine Below.setCell ?_ (by first|omega|(simp;done)|(simp;omega)) _)));rintro e' w1 ⟨rfl,BE⟩;obtain⟨q1,q2⟩:=KP.out _ BE))
       go_quiet (fail)
       clear jS hw1
       go_wp2
       go_roundg (xs.length-(k+1))
       case measure=>omega
       case rel=>exact⟨k+1,af,rfl,by go_num,zz,(by repeat (first|exact aI _ _|assumption|refine cJ ?_ _|refine Below.drew ?_|refine Below.alloc ?_ (by first|omega|(simp;done)|(simp;omega)) _|refine Below.setCell ?_ (by first|omega|(simp;done)|(simp;omega)) _))⟩
     ·obtain rfl:k=0:=af
      have zz:=hdd (HS.out fun h=>absurd h g3)
      simp only [Nat.zero_mul,Nat.add_zero]at c0 c1 c2 c3 c4 c5 c6
      clear g3
      go_wp2_with (first
       |(go_at_call 76;refine(ac2 _ _ _ _).mono ?_;rintro e w' ⟨rfl,rfl⟩)
       |(go_at_call 99;refine(ae3 (W:=w) (r:=e.is) ?_).mono ?_;(exact(by repeat (first|exact aI _ _|assumption|refine cJ ?_ _|refine Below.drew ?_|refine Below.alloc ?_ (by first|omega|(simp;done)|(simp;omega)) _|refine Below.setCell ?_ (by first|omega|(simp;done)|(simp;omega)) _)));rintro e' w1 ⟨rfl,BE⟩))
      go_quiet (fail)
      go_wp2
      go_roundg (xs.length-(0+1))
      case measure=>omega
      case rel=>exact⟨0+1,af,rfl,by go_num,zz,(by repeat (first|exact aI _ _|assumption|refine cJ ?_ _|refine Below.drew ?_|refine Below.alloc ?_ (by first|omega|(simp;done)|(simp;omega)) _|refine Below.setCell ?_ (by first|omega|(simp;done)|(simp;omega)) _))⟩
    ·have hxy:qu xs lo hi=false:=xH.2 fun h=>hok (by
      have:=BQ h hlt
      rw [he]at this
      exact⟨this.1,this.2.1,this.2.2.1,this.2.2.2.1⟩)
     have nI:=hdd hok
     clear he hp hok
     by_cases g1:lo<=e.key/\e.key<hi
     ·have d1:av e.key lo (hi-1)=true:=acY.2 ⟨g1.1,af⟩
      obtain⟨o1,o2⟩:=g1
      by_cases g2:e.is.c=0
      ·have d5:(e.is.c == 0)=true:=by simpa using g2
       clear g2
       go_wp2_with (go_at_call 76;refine(ac2 _ _ _ _).mono ?_;rintro e w' ⟨rfl,rfl⟩)
       go_ret
       exact⟨dP hxy.symm,(by repeat (first|exact aI _ _|assumption|refine cJ ?_ _|refine Below.drew ?_|refine Below.alloc ?_ (by first|omega|(simp;done)|(simp;omega)) _|refine Below.setCell ?_ (by first|omega|(simp;done)|(simp;omega)) _))⟩
      ·have d5:(e.is.c == 0)=false:=by simpa using g2
       have d6:(aq e.is != 0)=true:=by
        by_cases h:aq e.is=0
        ·exact absurd ⟨o1,o2,g2,h⟩ nI.out
        ·simpa using h
       clear g2
       go_wp2_with (first
        |(go_at_call 76;refine(ac2 _ _ _ _).mono ?_;rintro e w' ⟨rfl,rfl⟩)
        |(go_at_call 99;refine(ae3 (W:=w) (r:=e.is) ?_).mono ?_;(exact(by repeat (first|exact aI _ _|assumption|refine cJ ?_ _|refine Below.drew ?_|refine Below.alloc ?_ (by first|omega|(simp;done)|(simp;omega)) _|refine Below.setCell ?_ (by first|omega|(simp;done)|(simp;omega)) _)));rintro e' w1 ⟨rfl,BE⟩))
       go_ret
       exact⟨dP hxy.symm,BE⟩
     ·have d1:av e.key lo (hi-1)=false:=adV.2 af
      clear g1
      go_wp2_with (go_at_call 76;refine(ac2 _ _ _ _).mono ?_;rintro e w' ⟨rfl,rfl⟩)
      go_ret
      exact⟨dP hxy.symm,(by repeat (first|exact aI _ _|assumption|refine cJ ?_ _|refine Below.drew ?_|refine Below.alloc ?_ (by first|omega|(simp;done)|(simp;omega)) _|refine Below.setCell ?_ (by first|omega|(simp;done)|(simp;omega)) _))⟩
   ·have hxy:qu xs lo hi=true:=pX.2 (EP af HE.out)
    go_wp2
    go_ret
    exact⟨dP hxy.symm,(by repeat (first|exact aI _ _|assumption|refine cJ ?_ _|refine Below.drew ?_|refine Below.alloc ?_ (by first|omega|(simp;done)|(simp;omega)) _|refine Below.setCell ?_ (by first|omega|(simp;done)|(simp;omega)) _))⟩
end
section
set_option maxRecDepth 100000
set_option maxHeartbeats 1000000
variable {e:Ending} {n lo hi d:Int} {S:List Int} {sb N f cap:Nat} {x:Nd} {t:Tr} {nv:Value} {w w' w0:World}
def wQ (w:World) (sb N:Nat) (S:List Int):Prop:=sb<w.heap.size/\∀i:Nat,i<N->w.cell? ⟨sb,i,none⟩=some (.int .i64 (if (i:Int)∈S then 1 else 0))/\w.frozen? ⟨sb,i,none⟩=false
theorem wQ.turn (h:wQ w sb N S) {X:Nat->Prop} (ht:aa0 X w w') (hx:¬X sb):wQ w' sb N S:=
 ⟨mQ h.1 ht.size,fun i hi=>⟨(ht.cell h.1 hx i).trans (h.2 i hi).1,(ht.frozen h.1 hx i).trans (h.2 i hi).2⟩⟩
theorem wQ.set (h:wQ w sb N S) {j:Nat} (hj:n=j) (hn:j<N):wQ (w.setCell ⟨sb,j,none⟩ (.int .i64 1)) sb N (n::S):=by
 refine⟨by rw [aA];exact h.1,fun i hi=>?_⟩
 by_cases hij:i=j
 ·subst hij
  refine⟨?_,?_⟩
  ·rw [World.cell?_setCell_same' _ _ _ (by rw [(h.2 i hi).1];rfl),ar (by simp [hj])]
  ·rw [<-(h.2 i hi).2];simp [World.frozen?,World.setCell,Array.getElem?_modify]
   cases w.heap[sb]? with
   |none=>rfl
   |some o=>cases o <;> rfl
 ·refine⟨?_,?_⟩
  ·rw [World.cell?_setCell_other _ _ _ _ bj,(h.2 i hi).1]
   have:((i:Int)∈n::S)↔(i:Int)∈S:=by simp [hj];omega
   simp only [this]
  ·rw [<-(h.2 i hi).2];simp [World.frozen?,World.setCell,Array.getElem?_modify]
   cases w.heap[sb]? with
   |none=>rfl
   |some o=>cases o <;> rfl
def ado (_w0:World) (sb N:Nat) (r:Option (Int×List Int)) (w:World) (e:Ending) (w':World):Prop:=
 aa0 (·=sb) w w'/\(match r with|none=>e = .returned (.int .i64 0)|some (h,S')=>e = .returned (.int .i64 h)/\wQ w' sb N S')
theorem acA (ht:aa0 (·=sb) w w') (he:e = .returned (.int .i64 0)):ado w0 sb N none w e w':=⟨ht,he⟩
theorem aeL {h:Int} (ht:aa0 (·=sb) w w') (he:e = .returned (.int .i64 h)) (hs:wQ w' sb N S):ado w0 sb N (some (h,S)) w e w':=⟨ht,he,hs⟩
theorem af2 (h0:bz w0 nv t.nodes) (hd:d=13-f) (hf:f<=12) (hbad:f=0\/t.dh n=none) :
  Calls Tryd.prog 120 #[.agg #[nv, .int .i64 t.root], .int .i64 n, .int .i64 lo, .int .i64 hi, .int .i64 d, .slice (some ⟨sb,0,none⟩) N cap] w (ado w0 sb N (abB t f n lo hi S) w):=by
 have hr:abB t f n lo hi S=none:=by
  cases f with
  |zero=>rfl
  |succ f=>exact afx (by rcases hbad with h|h;cases h;exact h)
 rw [hr]
 obtain⟨⟨ao,c,rfl⟩,hlen⟩:=h0.len
 have hw1:IntKind.i64.wrap ((t.nodes.length:Int)-1)=(t.nodes.length:Int)-1:=IntWalk.i64_in _ af
 have fin:∀w',ado w0 sb N none w (.returned (.int .i64 0)) (w.alloc w'):=fun o=>⟨(aa0.refl _ w).alloc o,rfl⟩
 by_cases hin:t.dh n=none
 ·have hn:=NF hin
  have d1:av n 0 ((t.nodes.length:Int)-1)=false:=adV.2 af
  have FIN:=hdd fin
  clear hr hbad hd hin hn fin h0
  go_enter Tryd.func120,Tryd.ntmps120
  go_wp2_with (go_at_call 76;refine(ac2 _ _ _ _).mono ?_;rintro e w' ⟨rfl,rfl⟩)
  go_ret
  exact FIN.out _
 ·obtain rfl:f=0:=by rcases hbad with h|h;exact h;exact absurd h hin
  obtain⟨x,hx⟩:=Option.ne_none_iff_exists'.1 hin
  have hn:=uY hx
  have d1:av n 0 ((t.nodes.length:Int)-1)=true:=acY.2 af
  have d2:(12:Int)<d:=af
  have FIN:=hdd fin
  clear hr hbad hd hin hn fin h0 hx
  go_enter Tryd.func120,Tryd.ntmps120
  go_wp2_with (go_at_call 76;refine(ac2 _ _ _ _).mono ?_;rintro e w' ⟨rfl,rfl⟩)
  go_ret
  exact FIN.out _
theorem pP {xs:List Nd} (h:bz w0 nv xs) (hb:ah w0 w) {i:Nat} (hi:xs[i]?=some x) :
  ∃nb gL cap ev kv dv bv,nv = .slice (some ⟨nb,gL,none⟩) xs.length cap/\nb<w0.heap.size/\fu w0 ev x.aF/\gy w0 kv x.keys/\gy w0 dv x.kids/\fu w0 bv x.buf /\
   w.cell? ⟨nb,gL+i*5,none⟩=some (.bool x.leaf)/\w.cell? ⟨nb,gL+i*5+1,none⟩=some ev/\w.cell? ⟨nb,gL+i*5+2,none⟩=some kv/\w.cell? ⟨nb,gL+i*5+3,none⟩=some dv/\w.cell? ⟨nb,gL+i*5+4,none⟩=some bv:=by
 obtain⟨nb,gL,cap,r,e,hnb,⟨h1,h2,h3,h4,h5⟩,c0,c1,c2,c3,c4⟩:=h.get hi
 have g:∀o,w.cell? ⟨nb,o,none⟩=w0.cell? ⟨nb,o,none⟩:=fun o=>hb.cell (p:=⟨nb,o,none⟩) hnb
 exact⟨nb,gL,cap,r.ev,r.kv,r.dv,r.bv,e,hnb,h2,h3,h4,h5,by rw [g,c0,h1],by rw [g,c1],by rw [g,c2],by rw [g,c3],by rw [g,c4]⟩
theorem afW (h0:bz w0 nv t.nodes) (hb0:ah w0 w) (ME:w0.heap.size<=sb) (hs:wQ w sb t.nodes.length S) (hd1:1<=d) (hd:d<=12) (hx:t.dh n=some x) (hbad:n∈S\/¬lo<hi) :
  Calls Tryd.prog 120 #[.agg #[nv, .int .i64 t.root], .int .i64 n, .int .i64 lo, .int .i64 hi, .int .i64 d, .slice (some ⟨sb,0,none⟩) t.nodes.length cap] w (ado w0 sb t.nodes.length (abB t (f+1) n lo hi S) w):=by
 rw [afw hx hbad]
 obtain⟨hn0,GU,xE⟩:=uY hx
 obtain⟨j,hj⟩:∃j:Nat,n=j:=⟨n.toNat,af⟩
 subst hj
 rw [Int.toNat_natCast]at GU xE
 obtain⟨nb,gL,c,ev,kv,dv,bv,rfl,hnb,hE,hK,hD,hB,c0,c1,c2,c3,c4⟩:=pP h0 hb0 xE
 have hlen:=h0.len.2
 obtain⟨ae,ne,rfl⟩:=hE.isSlice
 obtain⟨ak,nk,rfl⟩:=hK.isSlice
 obtain⟨ad,tU,rfl⟩:=hD.isSlice
 obtain⟨ab,o8,rfl⟩:=hB.isSlice
 obtain⟨s0,s1⟩:=hs.2 j GU
 have hsl:=hs.1
 have hbz:=hb0.size
 have aj7:sb≠nb:=af
 have zI:nb<w.heap.size:=af
 have d1:av (j:Int) 0 ((t.nodes.length:Int)-1)=true:=acY.2 af
 have hw1:IntKind.i64.wrap ((t.nodes.length:Int)-1)=(t.nodes.length:Int)-1:=IntWalk.i64_in _ af
 clear hs h0 hb0 hE hK hD hB hx hn0
 by_cases hjs:(j:Int)∈S
 ·rw [ar hjs]at s0
  clear hbad hjs
  go_enter Tryd.func120,Tryd.ntmps120
  go_wp2_with (go_at_call 76;refine(ac2 _ _ _ _).mono ?_;rintro e w' ⟨rfl,rfl⟩)
  go_ret
  exact acA (by repeat (first|exact aa0.refl _ _|assumption|refine aa0.drewN ?_ _|refine aa0.drew ?_|refine aa0.alloc ?_ _|refine aa0.setCell ?_ (by first|exact .inl rfl|(right;first|omega|(simp;done)|(simp;omega))) _)) rfl
 ·rw [ai hjs]at s0
  have hge:hi<=lo:=by rcases hbad with h|h;exact absurd h hjs;omega
  clear hbad hjs
  go_enter Tryd.func120,Tryd.ntmps120
  go_wp2_with (go_at_call 76;refine(ac2 _ _ _ _).mono ?_;rintro e w' ⟨rfl,rfl⟩)
  go_ret
  exact acA (by repeat (first|exact aa0.refl _ _|assumption|refine aa0.drewN ?_ _|refine aa0.drew ?_|refine aa0.alloc ?_ _|refine aa0.setCell ?_ (by first|exact .inl rfl|(right;first|omega|(simp;done)|(simp;omega))) _)) rfl
end
section
set_option maxRecDepth 100000
set_option maxHeartbeats 2000000
theorem afZ {t:Tr} {nv:Value} {w0:World} (h0:bz w0 nv t.nodes) {f:Nat} {n lo hi d:Int} {S:List Int} {w:World} {sb cap:Nat} {x:Nd} (hb0:ah w0 w) (ME:w0.heap.size<=sb) (hs:wQ w sb t.nodes.length S) (hd0:d=12-f) (hd1:1<=d) (hd:d<=12) (hhi:hi<=9223372036854775807) (hlo:0<=lo) (hx:t.dh n=some x) (Q3:n∉S) (hlt:lo<hi) (uE:x.leaf=true) :
  Calls Tryd.prog 120 #[.agg #[nv, .int .i64 t.root], .int .i64 n, .int .i64 lo, .int .i64 hi, .int .i64 d, .slice (some ⟨sb,0,none⟩) t.nodes.length cap] w (ado w0 sb t.nodes.length (abB t (f+1) n lo hi S) w):=by
 have Mx:mq t n x lo hi->abB t (f+1) n lo hi S=some (d,n::S):=fun h=>by rw [afy hx Q3 hlt uE h,hd0]
 have hno:¬mq t n x lo hi->abB t (f+1) n lo hi S=none:=fun h=>af3 hx uE h
 obtain⟨hn0,GU,xE⟩:=uY hx
 obtain⟨j,hj⟩:∃j:Nat,n=j:=⟨n.toNat,af⟩
 subst hj
 rw [Int.toNat_natCast]at GU xE
 obtain⟨nb,gL,c,ev,kv,dv,bv,rfl,hnb,hE,hK,hD,hB,c0,c1,c2,c3,c4⟩:=pP h0 hb0 xE
 have hlen:=h0.len.2
 obtain⟨ae,ne,rfl⟩:=hE.isSlice
 obtain⟨ak,nk,rfl⟩:=hK.isSlice
 obtain⟨ad,tU,rfl⟩:=hD.isSlice
 obtain⟨ab,o8,rfl⟩:=hB.isSlice
 obtain⟨s0,s1⟩:=hs.2 j GU
 have hsl:=hs.1
 have hbz:=hb0.size
 have aj7:sb≠nb:=af
 have zI:nb<w.heap.size:=af
 have d1:av (j:Int) 0 ((t.nodes.length:Int)-1)=true:=acY.2 af
 have l1:=hE.len aW
 have l2:=hK.len aW
 have l3:=hD.len aW
 have l4:=hB.len aW
 rw [ai Q3]at s0
 rw [uE]at c0
 have SN:wQ (w.setCell ⟨sb,j,none⟩ (.int .i64 1)) sb t.nodes.length ((j:Int)::S):=hs.set rfl GU
 have HE:=hdd fun w' (hb:ah w0 w')=>ah6 (lo:=lo) (hi:=hi) (hE.below hb aH) af hhi
 have qC:=hdd (Gv (t:=t) (n:=(j:Int)) (x:=x) (lo:=lo) (hi:=hi))
 have aci:=hdd fun(h:x.aF.length=0)=>(show qu x.aF lo hi=true by rw [wO h];exact pX.2 (tJ lo hi))
 have Ib:=hdd Mx
 have nI:=hdd hno
 clear hs h0 hE hK hD hB hx hn0 Q3 Mx hno uE hd0
 generalize x.aF.length=le at *
 generalize x.keys.length=lk at *
 generalize x.kids.length=ld at *
 generalize x.buf.length=lb at *
 generalize qu x.aF lo hi=be at *
 have hw1:IntKind.i64.wrap ((t.nodes.length:Int)-1)=(t.nodes.length:Int)-1:=IntWalk.i64_in _ af
 go_enter Tryd.func120,Tryd.ntmps120
 go_upto_region 7 with ((go_at_call 76;refine(ac2 _ _ _ _).mono ?_;rintro e w' ⟨rfl,rfl⟩))
 clear hw1
 obtain⟨W2,hW2⟩:=bP ((((w.setCell ⟨sb,j,none⟩ (.int .i64 1)).alloc (.cells #[.slice (some ⟨nb,gL,none⟩) t.nodes.length c, .int .i64 t.root] 32)).alloc (.cells #[.bool true, .slice ae le ne, .slice ak lk nk, .slice ad ld tU, .slice ab lb o8] 119)))
 have ht2:aa0 (·=sb) w W2:=by rw [hW2];exact(by repeat (first|exact aa0.refl _ _|assumption|refine aa0.drewN ?_ _|refine aa0.drew ?_|refine aa0.alloc ?_ _|refine aa0.setCell ?_ (by first|exact .inl rfl|(right;first|omega|(simp;done)|(simp;omega))) _))
 have hb2:ah w0 W2:=ht2.below hb0 af (fun i hi=>af)
 have kV:wQ W2 sb t.nodes.length ((j:Int)::S):=by rw [hW2];exact SN.turn (X:=fun _=>False) (((aa0.refl _ _).alloc _).alloc _) (fun h=>h)
 have k0:W2.heap[w.heap.size]?=some (.cells #[.slice (some ⟨nb,gL,none⟩) t.nodes.length c, .int .i64 t.root] 32):=by
  rw [hW2,kW _ _ _ bj];exact aj _ _ (by rw [aA])
 have k1:W2.heap[w.heap.size+1]?=some (.cells #[.bool true, .slice ae le ne, .slice ak lk nk, .slice ad ld tU, .slice ab lb o8] 119):=by
  rw [hW2];exact aj _ _ bj
 have q0:W2.cell? ⟨w.heap.size,1,none⟩=some (.int .i64 t.root):=by simp [World.cell?,k0]
 obtain⟨x0,x1,x2,x3,x4⟩:W2.cell? ⟨w.heap.size+1,0,none⟩=some (.bool true)/\W2.cell? ⟨w.heap.size+1,1,none⟩=some (.slice ae le ne)/\W2.cell? ⟨w.heap.size+1,2,none⟩=some (.slice ak lk nk)/\W2.cell? ⟨w.heap.size+1,3,none⟩=some (.slice ad ld tU)/\W2.cell? ⟨w.heap.size+1,4,none⟩=some (.slice ab lb o8):=by
  simp [World.cell?,k1]
 rw [<-hW2]
 have Oh:=hdd (HE.out W2 hb2)
 clear hW2 k0 k1 SN s0 s1 c0 c1 c2 c3 c4 hb0 hb2 HE
 by_cases g1:lk+ld+lb=0
 ·obtain⟨rfl,rfl,rfl⟩:lk=0/\ld=0/\lb=0:=af
  by_cases g2:le<=6
  ·by_cases g3:le=0
   ·subst g3
    have Tq:be=true:=aci.out rfl
    subst Tq
    by_cases g4:(j:Int)=t.root
    ·have HR:=hdd (Ib.out (qC.out.2 ⟨af,af,fun _=>g4,rfl⟩))
     have dr:((j:Int) != t.root)=false:=by simp [g4]
     clear g1 g2 g4
     go_wp2_with ((go_at_call 128;(with_reducible refine Oh.out.mono ?_);rintro e' w1 ⟨rfl,BE⟩))
     go_ret
     rw [HR.out]
     exact aeL (ht2.trans (aa0.of BE aH)) rfl (kV.turn (X:=fun _=>False) (aa0.of BE aH) (fun h=>h))
    ·have HR:=hdd (nI.out (fun h=>g4 ((qC.out.1 h).2.2.1 rfl)))
     have dr:((j:Int) != t.root)=true:=by simp [g4]
     clear g1 g2 g4
     go_wp2
     go_ret
     rw [HR.out]
     exact acA ht2 rfl
   ·have g3':0<le:=af
    have aq4:decide (le=0)=false:=by simp [g3]
    cases be with
    |true=>
     have HR:=hdd (Ib.out (qC.out.2 ⟨af,af,fun h=>absurd h g3,rfl⟩))
     clear g1
     go_wp2_with ((go_at_call 128;(with_reducible refine Oh.out.mono ?_);rintro e' w1 ⟨rfl,BE⟩))
     go_ret
     rw [HR.out]
     exact aeL (ht2.trans (aa0.of BE aH)) rfl (kV.turn (X:=fun _=>False) (aa0.of BE aH) (fun h=>h))
    |false=>
     have HR:=hdd (nI.out (fun h=>by have:=(qC.out.1 h).2.2.2;cases this))
     clear g1
     go_wp2_with ((go_at_call 128;(with_reducible refine Oh.out.mono ?_);rintro e' w1 ⟨rfl,BE⟩))
     go_ret
     rw [HR.out]
     exact acA (ht2.trans (aa0.of BE aH)) rfl
  ·have HR:=hdd (nI.out (fun h=>g2 (qC.out.1 h).2.1))
   have g2':6<le:=af
   clear g1 g2
   go_wp2
   go_ret
   rw [HR.out]
   exact acA ht2 rfl
 ·have HR:=hdd (nI.out (fun h=>g1 (qC.out.1 h).1))
  have g1':0<lk+ld+lb:=af
  have g1'':(0:Int)<(lk:Int)+ld+lb:=af
  clear g1
  go_wp2
  go_ret
  rw [HR.out]
  exact acA ht2 rfl
end
section
set_option maxRecDepth 100000
set_option maxHeartbeats 2000000
variable {sb:Nat} {t:Tr} {nv:Value} {w0:World}
theorem afv (h0:bz w0 nv t.nodes) {f:Nat} {n lo hi d:Int} {S:List Int} {w:World} {cap:Nat} {x:Nd} (hb0:ah w0 w) (ME:w0.heap.size<=sb) (hs:wQ w sb t.nodes.length S) (hd0:d=12-f) (hf:f<=11)
  (IH:∀(n lo hi d:Int) (S:List Int) (w:World) (cap:Nat),d=13-f->ah w0 w->wQ w sb t.nodes.length S->hi<=9223372036854775807->0<=lo ->
   Calls Tryd.prog 120 #[.agg #[nv, .int .i64 t.root], .int .i64 n, .int .i64 lo, .int .i64 hi, .int .i64 d, .slice (some ⟨sb,0,none⟩) t.nodes.length cap] w (ado w0 sb t.nodes.length (abB t f n lo hi S) w))
  (hhi:hi<=9223372036854775807) (hlo:0<=lo) (hx:t.dh n=some x) (Q3:n∉S) (hlt:lo<hi) (uE:x.leaf=false) :
  Calls Tryd.prog 120 #[.agg #[nv, .int .i64 t.root], .int .i64 n, .int .i64 lo, .int .i64 hi, .int .i64 d, .slice (some ⟨sb,0,none⟩) t.nodes.length cap] w (ado w0 sb t.nodes.length (abB t (f+1) n lo hi S) w):=by
 have Mx:qw x lo hi->abB t (f+1) n lo hi S=aeb (fun k a b s=>abB t f k a b s) x lo hi x.kids 0 (0,n::S):=fun h=>aff hx Q3 hlt uE h
 have hno:¬qw x lo hi->abB t (f+1) n lo hi S=none:=fun h=>aeX hx uE h
 have hd1:1<=d:=af
 have hd:d<=12:=af
 obtain⟨hn0,GU,xE⟩:=uY hx
 obtain⟨j,hj⟩:∃j:Nat,n=j:=⟨n.toNat,af⟩
 subst hj
 rw [Int.toNat_natCast]at GU xE
 obtain⟨nb,gL,c,ev,kv,dv,bv,rfl,hnb,hE,hK,hD,hB,c0,c1,c2,c3,c4⟩:=pP h0 hb0 xE
 have hlen:=h0.len.2
 obtain⟨ae,ne,rfl⟩:=hE.isSlice
 obtain⟨ak,nk,rfl⟩:=hK.isSlice
 obtain⟨ad,tU,rfl⟩:=hD.isSlice
 obtain⟨ab,o8,rfl⟩:=hB.isSlice
 obtain⟨s0,s1⟩:=hs.2 j GU
 have hsl:=hs.1
 have hbz:=hb0.size
 have aj7:sb≠nb:=af
 have zI:nb<w.heap.size:=af
 have d1:av (j:Int) 0 ((t.nodes.length:Int)-1)=true:=acY.2 af
 have l1:=hE.len aW
 have l2:=hK.len aW
 have l3:=hD.len aW
 have l4:=hB.len aW
 rw [ai Q3]at s0
 rw [uE]at c0
 have SN:wQ (w.setCell ⟨sb,j,none⟩ (.int .i64 1)) sb t.nodes.length ((j:Int)::S):=hs.set rfl GU
 have HE:=hdd fun w' (hb:ah w0 w')=>ah6 (lo:=lo) (hi:=hi) (hB.below hb aH) af hhi
 have qC:=hdd (JY (x:=x) (lo:=lo) (hi:=hi))
 have Ib:=hdd Mx
 have nI:=hdd hno
 have UC:=hdd IH
 have Yi:=hdd hd0
 have HKEY:=hdd fun w' (hb:ah w0 w') (i:Nat) (y:Int) (hy:x.keys[i]?=some y)=>gy.get (hK.below hb aH) hy
 have yq:=hdd fun w' (hb:ah w0 w') (i:Nat) (y:Int) (hy:x.kids[i]?=some y)=>gy.get (hD.below hb aH) hy
 clear hs h0 hE hK hD hB hx hn0 Q3 Mx hno uE hd0 IH
 obtain⟨lk,hlk⟩:=bt (x.keys.length)
 obtain⟨ld,Q8⟩:=bt (x.kids.length)
 have Od:=hdd hlk
 have X5:=hdd Q8
 clear hlk Q8
 generalize x.aF.length=le at *
 generalize x.buf.length=lb at *
 generalize qu x.buf lo hi=be at *
 rw [Od.out]at c2 l2 qC
 rw [X5.out]at c3 l3 qC
 have hw1:IntKind.i64.wrap ((t.nodes.length:Int)-1)=(t.nodes.length:Int)-1:=IntWalk.i64_in _ af
 go_enter Tryd.func120,Tryd.ntmps120
 go_upto_region 7 with ((go_at_call 76;refine(ac2 _ _ _ _).mono ?_;rintro e w' ⟨rfl,rfl⟩))
 clear hw1
 obtain⟨W2,hW2⟩:=bP ((((w.setCell ⟨sb,j,none⟩ (.int .i64 1)).alloc (.cells #[.slice (some ⟨nb,gL,none⟩) t.nodes.length c, .int .i64 t.root] 32)).alloc (.cells #[.bool false, .slice ae le ne, .slice ak lk nk, .slice ad ld tU, .slice ab lb o8] 119)))
 have ht2:aa0 (·=sb) w W2:=by rw [hW2];exact(by repeat (first|exact aa0.refl _ _|assumption|refine aa0.drewN ?_ _|refine aa0.drew ?_|refine aa0.alloc ?_ _|refine aa0.setCell ?_ (by first|exact .inl rfl|(right;first|omega|(simp;done)|(simp;omega))) _))
 have hb2:ah w0 W2:=ht2.below hb0 af (fun i hi=>af)
 have kV:wQ W2 sb t.nodes.length ((j:Int)::S):=by rw [hW2];exact SN.turn (X:=fun _=>False) (((aa0.refl _ _).alloc _).alloc _) (fun h=>h)
 have k0:W2.heap[w.heap.size]?=some (.cells #[.slice (some ⟨nb,gL,none⟩) t.nodes.length c, .int .i64 t.root] 32):=by
  rw [hW2,kW _ _ _ bj];exact aj _ _ (by rw [aA])
 have k1:W2.heap[w.heap.size+1]?=some (.cells #[.bool false, .slice ae le ne, .slice ak lk nk, .slice ad ld tU, .slice ab lb o8] 119):=by
  rw [hW2];exact aj _ _ bj
 have q0:W2.cell? ⟨w.heap.size,1,none⟩=some (.int .i64 t.root):=by simp [World.cell?,k0]
 obtain⟨x0,x1,x2,x3,x4⟩:W2.cell? ⟨w.heap.size+1,0,none⟩=some (.bool false)/\W2.cell? ⟨w.heap.size+1,1,none⟩=some (.slice ae le ne)/\W2.cell? ⟨w.heap.size+1,2,none⟩=some (.slice ak lk nk)/\W2.cell? ⟨w.heap.size+1,3,none⟩=some (.slice ad ld tU)/\W2.cell? ⟨w.heap.size+1,4,none⟩=some (.slice ab lb o8):=by
  simp [World.cell?,k1]
 rw [<-hW2]
 have Oh:=hdd (HE.out W2 hb2)
 clear hW2 SN s0 s1 c0 c1 c2 c3 c4 hb0 HE
 by_cases hok:qw x lo hi
 ·have HR:=hdd (Ib.out hok)
  obtain⟨e1,e2,e3,e4,e5,e6⟩:=qC.out.1 hok
  subst e1 e6
  have d2:av (ld:Int) 2 4=true:=acY.2 af
  have d3:((lk:Int)+1 != (ld:Int))=false:=by simp;omega
  have e4a:lk+1<=ld:=af
  have e4b:ld<=lk+1:=af
  clear hok e4
  go_upto_region 13 with (first
   |(go_at_call 76;(with_reducible refine(ac2 _ _ _ _).mono ?_);rintro e w' ⟨rfl,rfl⟩)
   |(go_at_call 128;(with_reducible refine Oh.out.mono ?_);rintro e' w1 ⟨rfl,BE⟩))
  have HC:=hdd fun wr (ht:aa0 (·=sb) w1 wr)=>(by
   have b0:wr.heap[w.heap.size]?=_:=(ht.block _ (by have:=BE.size;have:=ht2.size;have:=(eI.1 k0).1;omega) af).trans ((BE.block _ (eI.1 k0).1).trans k0)
   have b1:wr.heap[w.heap.size+1]?=_:=(ht.block _ (by have:=BE.size;have:=(eI.1 k1).1;omega) af).trans ((BE.block _ (eI.1 k1).1).trans k1)
   simp [World.cell?,b0,b1] :
   (wr.cell? ⟨w.heap.size,0,none⟩=some (.slice (some ⟨nb,gL,none⟩) t.nodes.length c)/\wr.cell? ⟨w.heap.size,1,none⟩=some (.int .i64 t.root))/\wr.cell? ⟨w.heap.size+1,2,none⟩=some (.slice ak lk nk)/\wr.cell? ⟨w.heap.size+1,3,none⟩=some (.slice ad ld tU))
  have HB:=hdd fun wr (ht:aa0 (·=sb) w1 wr)=>(aa0.below (B:=w0.heap.size) ht (hb2.trans (BE.mono (by have:=hb2.size;omega))) (by have:=hb2.size;have:=BE.size;omega) (fun i hi=>af):ah w0 wr)
  have HT:=hdd fun wr (ht:aa0 (·=sb) w1 wr)=>((ht2.trans (aa0.of BE aH)).trans ht:aa0 (·=sb) w wr)
  have hs1:wQ w1 sb t.nodes.length ((j:Int)::S):=kV.turn (X:=fun _=>False) (aa0.of BE aH) (fun h=>h)
  clear q0 x0 x1 x2 x3 x4 k0 k1 hb2 kV ht2 BE Oh nI Ib qC hsl
  go_wp2_with fail
  go_loopg [14,15,16] ld (fun g a fr i wr=>∃(k:Nat) (D F:Int) (S':List Int),k<=ld/\g=ld-k/\i = .int .i64 k/\a = .int .i64 D/\fr = .int .i64 F/\0<=D/\lo<=F/\Hid (k<ld->F=x.from lo k) /\
   Hid (abB t (f+1) (j:Int) lo hi S=aeb (fun k a b s=>abB t f k a b s) x lo hi (x.kids.drop k) k (D,S'))/\aa0 (·=sb) w1 wr/\wQ wr sb t.nodes.length S')
  case atStart=>exact⟨0,0,lo,(j:Int)::S,jd _,rfl,rfl,rfl,rfl,Int.le_refl _,Int.le_refl _,hdd (fun _=>by simp [Nd.from]),hdd (by rw [HR.out];rfl),aa0.refl _ _,hs1⟩
  case round=>
   obtain⟨k,D,F,S',hk,rfl,rfl,rfl,rfl,hD0,Ls,HF,XP,ht,hs'⟩:=hrel
   obtain⟨⟨p0,p1⟩,p2,p3⟩:=HC.out _ ht
   by_cases hlt':k<ld
   ·obtain⟨K,hK⟩:∃K,x.kids[k]?=some K:=⟨x.kids[k]'(by rw [X5.out];exact hlt'),bj⟩
    obtain⟨kb,AO,VS,ke,hkb,hkc⟩:=yq.out _ (HB.out _ ht) k K hK
    injection ke with VR VQ VP
    subst VR VP
    obtain⟨T,hT⟩:=bt (x.upto hi k)
    have rL:=hdd (XP.out.trans (agP (by rw [X5.out];exact hlt')))
    have wo:x.kids[k]'(by rw [X5.out];exact hlt')=K:=(gJ.1 hK).2
    rw [wo,HF.out hlt' |>.symm,hT]at rL
    have HF':=hdd (show k+1<ld->T=x.from lo (k+1)from fun h=>by
     rw [<-hT]
     have hlk:k<x.keys.length:=by have:=Od.out;have:=X5.out;omega
     simp only [Nd.upto,Nd.from,Nat.add_sub_cancel];rw [ar hlk,ai af])
    have agU:lk<=ld:=af
    have yb:Hid ((k<lk->x.keys[k]?=some T)/\(¬k<lk->T=hi)):=hdd ⟨fun h=>by
      have hlk:k<x.keys.length:=by have:=Od.out;omega
      rw [<-hT];simp [Nd.upto,hlk],fun h=>by
      have hlk:¬k<x.keys.length:=by have:=Od.out;omega
      rw [<-hT];simp [Nd.upto,hlk]⟩
    clear hK hT wo
    go_upto_if 140 with (fail)
    go_cut [17] (fun v wx=>v = .int .i64 T/\wr=wx)
    case first=>
     by_cases hk2:k<lk
     ·obtain⟨b2,L6,cap2,e2,wj,hc2⟩:=HKEY.out _ (HB.out _ ht) k T (yb.out.1 hk2)
      injection e2 with f1 f2 f3
      subst f1 f3
      clear f2 VQ
      go_wp2
      go_meet
      exact⟨rfl,rfl⟩
     ·have yc:=hdd (yb.out.2 hk2)
      clear VQ
      go_wp2
      go_meet
      exact⟨by rw [yc.out],rfl⟩
    case rest=>
     obtain⟨rfl,rfl⟩:=hcut
     by_cases g1:lo<=T/\T<=hi
     ·have d5:av T lo hi=true:=acY.2 g1
      have HJ:=hdd (show d+1=13-f by have:=Yi.out;omega)
      have g1a:0<=T:=af
      have g1b:T<=9223372036854775807:=af
      have g1c:lo<=T:=g1.1
      have hwd:IntKind.i64.wrap (d+1)=d+1:=IntWalk.i64_in _ af
      have Io:=hdd (HB.out _ ht)
      have jS:=fun w=>lQ (ab:=kb) (aV:=AO) (n:=ld) (cap:=tU) (show (k:Int)=((k:Nat):Int) by rfl) hlt' w
      cases hR:abB t f K F T S' with
      |none=>
       have vF:=hdd (show abB t (f+1) (j:Int) lo hi S=none by rw [rL.out,ar g1];simp only [hR])
       have lg:=hdd (UC.out K F T (d+1) S' wr.drew cap HJ.out Io.out.drew (hs'.turn (X:=fun _=>False) (aa0.refl _ _).drew (fun h=>h)) g1b af)
       rw [hR]at lg
       clear hR g1
       go_upto_region 23 with ((go_at_call 76;(with_reducible refine(ac2 _ _ _ _).mono ?_);rintro e w' ⟨rfl,rfl⟩))
       refine wp_region_still_tail 11 bT bT ?_
       (simp only [List.take_succ_cons,List.take_zero,List.drop_succ_cons,List.drop_zero];(repeat ((with_reducible refine wpStill_step (fun K hK=>?_));go_simp;(with_reducible refine hK _ ?_);clear hK K));(with_reducible refine wpStill_nil ?_))
       change wpList _ _ _ _ _ wr.drew
       go_wp2_with ((go_at_call 120;(with_reducible refine lg.out.mono ?_);rintro e w2 ⟨ht2,rfl⟩))
       go_ret
       rw [vF.out]
       exact acA ((HT.out _ ht).trans ((aa0.refl _ _).drew.trans ht2)) rfl
      |some p=>
       obtain⟨h,S2⟩:=p
       have hpos:=aeQ af hR
       obtain⟨hp1,hp2,GL⟩:=hpos
       have HST:=hdd (show abB t (f+1) (j:Int) lo hi S=if D=0\/h=D then aeb (fun k a b s=>abB t f k a b s) x lo hi (x.kids.drop (k+1)) (k+1) (h,S2)else none by rw [rL.out,ar g1];simp only [hR])
       have lg:=hdd (UC.out K F T (d+1) S' wr.drew cap HJ.out Io.out.drew (hs'.turn (X:=fun _=>False) (aa0.refl _ _).drew (fun h=>h)) g1b af)
       rw [hR]at lg
       have hz:(h == 0)=false:=by simp;omega
       clear hR g1
       by_cases g2:D=0\/h=D
       ·have ai3:=hdd (HST.out.trans (ar g2))
        have hall:D=0\/(D≠0/\h=D):=af
        clear g2 HST
        rcases hall with rfl|⟨hall,rfl⟩
        ·go_upto_region 23 with ((go_at_call 76;(with_reducible refine(ac2 _ _ _ _).mono ?_);rintro e w' ⟨rfl,rfl⟩))
         refine wp_region_still_tail 11 bT bT ?_
         (simp only [List.take_succ_cons,List.take_zero,List.drop_succ_cons,List.drop_zero];(repeat ((with_reducible refine wpStill_step (fun K hK=>?_));go_simp;(with_reducible refine hK _ ?_);clear hK K));(with_reducible refine wpStill_nil ?_))
         change wpList _ _ _ _ _ wr.drew
         clear jS hwd
         go_wp2_with ((go_at_call 120;(with_reducible refine lg.out.mono ?_);rintro e w2 ⟨ht2,rfl,hs2⟩))
         go_roundg (ld-(k+1))
         case measure=>omega
         case rel=>exact⟨k+1,h,T,S2,af,rfl,by go_num,rfl,rfl,af,g1c,HF',ai3,ht.trans ((aa0.refl _ _).drew.trans ht2),hs2⟩
        ·have amM:0<h:=af
         go_upto_region 23 with ((go_at_call 76;(with_reducible refine(ac2 _ _ _ _).mono ?_);rintro e w' ⟨rfl,rfl⟩))
         refine wp_region_still_tail 11 bT bT ?_
         (simp only [List.take_succ_cons,List.take_zero,List.drop_succ_cons,List.drop_zero];(repeat ((with_reducible refine wpStill_step (fun K hK=>?_));go_simp;(with_reducible refine hK _ ?_);clear hK K));(with_reducible refine wpStill_nil ?_))
         change wpList _ _ _ _ _ wr.drew
         clear jS hwd
         go_wp2_with ((go_at_call 120;(with_reducible refine lg.out.mono ?_);rintro e w2 ⟨ht2,rfl,hs2⟩))
         go_roundg (ld-(k+1))
         case measure=>omega
         case rel=>exact⟨k+1,h,T,S2,af,rfl,by go_num,rfl,rfl,af,g1c,HF',ai3,ht.trans ((aa0.refl _ _).drew.trans ht2),hs2⟩
       ·have ai3:=hdd (HST.out.trans (ai g2))
        have hall:0<D:=af
        have hne:(h != D)=true:=by simp;omega
        clear g2 HST
        go_upto_region 23 with ((go_at_call 76;(with_reducible refine(ac2 _ _ _ _).mono ?_);rintro e w' ⟨rfl,rfl⟩))
        refine wp_region_still_tail 11 bT bT ?_
        (simp only [List.take_succ_cons,List.take_zero,List.drop_succ_cons,List.drop_zero];(repeat ((with_reducible refine wpStill_step (fun K hK=>?_));go_simp;(with_reducible refine hK _ ?_);clear hK K));(with_reducible refine wpStill_nil ?_))
        change wpList _ _ _ _ _ wr.drew
        clear jS hwd
        go_wp2_with ((go_at_call 120;(with_reducible refine lg.out.mono ?_);rintro e w2 ⟨ht2,rfl,hs2⟩))
        go_ret
        rw [ai3.out]
        exact acA ((HT.out _ ht).trans ((aa0.refl _ _).drew.trans ht2)) rfl
     ·have d5:av T lo hi=false:=adV.2 af
      have vF:=hdd (show abB t (f+1) (j:Int) lo hi S=none by rw [rL.out,ai g1])
      clear g1
      go_wp2_with ((go_at_call 76;(with_reducible refine(ac2 _ _ _ _).mono ?_);rintro e w' ⟨rfl,rfl⟩))
      go_ret
      rw [vF.out]
      exact acA (HT.out _ ht) rfl
   ·have Ic:=hdd (XP.out.trans (aht (by rw [X5.out];omega)))
    go_wp2
    go_ret
    rw [Ic.out]
    exact aeL (HT.out _ ht) rfl hs'
 ·have HR:=hdd (nI.out hok)
  have GZ:=qC.out
  by_cases g1:le=0
  ·subst g1
   by_cases g2:2<=ld/\ld<=4
   ·have d2:av (ld:Int) 2 4=true:=acY.2 af
    by_cases g3:lk+1=ld
    ·have d3:((lk:Int)+1 != (ld:Int))=false:=by simp;omega
     by_cases g4:lb<=8
     ·have Tq:be=false:=by
       cases be with
       |false=>rfl
       |true=>exact absurd (GZ.2 ⟨rfl,g2.1,g2.2,g3,g4,rfl⟩) hok
      subst Tq
      clear hok GZ g2 g3 qC
      go_wp2_with (first
       |(go_at_call 76;(with_reducible refine(ac2 _ _ _ _).mono ?_);rintro e w' ⟨rfl,rfl⟩)
       |(go_at_call 128;(with_reducible refine Oh.out.mono ?_);rintro e' w1 ⟨rfl,BE⟩))
      go_ret
      rw [HR.out]
      exact acA (ht2.trans (aa0.of BE aH)) rfl
     ·have g4':8<lb:=af
      clear hok GZ g2 g3 g4 qC
      go_wp2_with ((go_at_call 76;(with_reducible refine(ac2 _ _ _ _).mono ?_);rintro e w' ⟨rfl,rfl⟩))
      go_ret
      rw [HR.out]
      exact acA ht2 rfl
    ·have d3:((lk:Int)+1 != (ld:Int))=true:=by simp;omega
     clear hok GZ g2 g3 qC
     go_wp2_with ((go_at_call 76;(with_reducible refine(ac2 _ _ _ _).mono ?_);rintro e w' ⟨rfl,rfl⟩))
     go_ret
     rw [HR.out]
     exact acA ht2 rfl
   ·have d2:av (ld:Int) 2 4=false:=adV.2 af
    clear hok GZ g2 qC
    go_wp2_with ((go_at_call 76;(with_reducible refine(ac2 _ _ _ _).mono ?_);rintro e w' ⟨rfl,rfl⟩))
    go_ret
    rw [HR.out]
    exact acA ht2 rfl
  ·have g1':0<le:=af
   clear hok GZ g1 qC
   go_wp2
   go_ret
   rw [HR.out]
   exact acA ht2 rfl
theorem agQ (h0:bz w0 nv t.nodes) (ME:w0.heap.size<=sb):∀(f:Nat),f<=12->∀(n lo hi d:Int) (S:List Int) (w:World) (cap:Nat),d=13-f->ah w0 w->wQ w sb t.nodes.length S->hi<=9223372036854775807->0<=lo ->
  Calls Tryd.prog 120 #[.agg #[nv, .int .i64 t.root], .int .i64 n, .int .i64 lo, .int .i64 hi, .int .i64 d, .slice (some ⟨sb,0,none⟩) t.nodes.length cap] w (ado w0 sb t.nodes.length (abB t f n lo hi S) w):=by
 intro f
 induction f with
 |zero=>intro _ n lo hi d S w cap hd hb hs hhi hlo;exact af2 h0 (cap:=cap) (N:=t.nodes.length) hd af (.inl rfl)
 |succ f ih=>
  intro hf n lo hi d S w cap hd hb hs hhi hlo
  cases hx:t.dh n with
  |none=>exact af2 h0 (cap:=cap) (N:=t.nodes.length) hd hf (.inr hx)
  |some x=>
   by_cases hbad:n∈S\/¬lo<hi
   ·exact afW h0 hb ME hs af af hx hbad
   ·have h1:n∉S:=fun h=>hbad (.inl h)
    have h2:lo<hi:=Classical.byContradiction fun h=>hbad (.inr h)
    cases hl:x.leaf with
    |true=>exact afZ h0 hb ME hs af af af hhi hlo hx h1 h2 hl
    |false=>exact afv h0 hb ME hs af af (fun n lo hi d S w cap=>ih af n lo hi d S w cap) hhi hlo hx h1 h2 hl
end
section
set_option maxRecDepth 100000
set_option maxHeartbeats 1000000
variable {w:World}
theorem Tryd.aj3:(Tryd.prog.info? 3).map (fun i=>(i.zero,i.size,i.bytes))=some (some (.int .i64 0),1,8):=bT
theorem ahi {B sb n:Nat} {e:TypeId} (h:w.ownsRow B e 1 (.slice (some ⟨sb,0,none⟩) n n) n (madeCells #[.int .i64 0] (n*1)).toList):wQ w sb n []:=by
 ·obtain⟨hl,⟨h0,_⟩|⟨g,cap,cur,e1,hb,hg,h1,h2,h3,h4⟩⟩:=h
  ·cases h0
  ·injection e1 with e1 e2 e3
   injection e1 with e1;injection e1 with e1
   subst e1 e3
   refine⟨(eI.1 hg).1,fun i hi=>⟨?_,by simp [World.frozen?,hg]⟩⟩
   have hf:(madeCells #[.int .i64 0] (n*1)).toList[i]?=some (.int .i64 0):=by
    rw [toList_madeCells_one,List.getElem?_replicate,ar af]
   rw [<-h4,qg,ar af]at hf
   simp only [World.cell?,hg]
   simpa using hf
theorem afd {v:Value} {t:Tr} (h:bM w v t) :
  Calls Tryd.prog 98 #[v] w fun e w'=>e = .returned (.int .i64 (ax t))/\ah w w':=by
 obtain⟨nv,rfl,hn⟩:=h
 rw [<-ahA]
 obtain⟨⟨ao,cap,rfl⟩,hlen⟩:=hn.len
 by_cases hbig:2000<t.nodes.length
 ·have HR:=hdd (show aej t=1 from ar hbig)
  go_enter Tryd.func98,Tryd.ntmps98
  go_wp2
  go_ret
  exact⟨gZ HR.out.symm,(by repeat (first|exact aI _ _|assumption|refine cJ ?_ _|refine Below.drew ?_|refine Below.alloc ?_ (by first|omega|(simp;done)|(simp;omega)) _|refine Below.setCell ?_ (by first|omega|(simp;done)|(simp;omega)) _))⟩
 ·have hsm:t.nodes.length<=2000:=af
  have HR:=hdd (show aej t=_ from ai hbig)
  obtain⟨i0,hi,hz0,hz1,hz2⟩:=info_parts Tryd.aj3
  clear hbig
  go_enter Tryd.func98,Tryd.ntmps98
  go_upto_region 4 with (first|(at_make;refine wpList_make_full _ rfl _ _ 82 rfl (w.heap.size+1) 3 i0 (.int .i64 0) 1 Tryd.underlying82 hi hz0 hz1 _ _ _ _ t.nodes.length rfl rfl rfl rfl (by rw [hz2];omega) (by unfold maxLen;omega) bj ?_;intro w1 hown hgrow))
  have hw0:(w.alloc (.cells #[.slice ao t.nodes.length cap, .int .i64 t.root] 32)).heap.size=w.heap.size+1:=bj
  rw [hw0]at hown
  have hb1:ah w w1:=Below.grown ((aI _ _).alloc aH _) hgrow bj (fun _ h=>by cases h)
  have hs1:=ahi hown
  have q0:w1.cell? ⟨w.heap.size,0,none⟩=some (.slice ao t.nodes.length cap)/\w1.cell? ⟨w.heap.size,1,none⟩=some (.int .i64 t.root):=by
   have hk:w1.heap[w.heap.size]?=some (.cells #[.slice ao t.nodes.length cap, .int .i64 t.root] 32):=(hgrow.block _ bj bj).trans (aj _ _ rfl)
   simp [World.cell?,hk]
  obtain⟨q0,q1⟩:=q0
  have lg:=hdd (agQ hn (sb:=w.heap.size+1) af 12 aH t.root 0 1099511627776 1 [] w1 t.nodes.length aW hb1 hs1 af af)
  have hz:=fun h S (e:abB t 12 t.root 0 1099511627776 []=some (h,S))=>(aeQ af e).1
  clear hown hgrow hs1 hw0 hi hz0 hz1 hz2 hn
  cases hr:abB t 12 t.root 0 1099511627776 [] with
  |none=>
   rw [hr]at lg
   have XR:=hdd (show aej t=7 by rw [HR.out,hr])
   clear hr hz
   go_wp2_with ((go_at_call 120;(with_reducible refine lg.out.mono ?_);rintro e w2 ⟨ht2,rfl⟩))
   go_ret
   exact⟨gZ XR.out.symm,ht2.below hb1 hb1.size (fun i hi=>af)⟩
  |some p=>
   obtain⟨h,S⟩:=p
   rw [hr]at lg
   have hh:=hz h S hr
   have hh0:(h == 0)=false:=by simp;omega
   have XR:=hdd (show aej t=if ∀i:Nat,i<t.nodes.length->(i:Int)∈S then 0 else 7 by rw [HR.out,hr])
   clear hr hz
   go_wp2_with ((go_at_call 120;(with_reducible refine lg.out.mono ?_);rintro e w2 ⟨ht2,rfl,hs2⟩))
   have hb2:ah w w2:=ht2.below hb1 hb1.size (fun i hi=>af)
   go_loopg [4] t.nodes.length (fun g i wr=>∃k:Nat,k<=t.nodes.length/\g=t.nodes.length-k/\i = .int .i64 k/\(∀i:Nat,i<k->(i:Int)∈S)/\w2=wr)
   case atStart=>exact⟨0,jd _,rfl,rfl,fun i hi=>af,rfl⟩
   case round=>
    obtain⟨k,hk,rfl,rfl,HA,rfl⟩:=hrel
    have HA':=hdd HA
    clear HA
    by_cases hlt:k<t.nodes.length
    ·obtain⟨s0,-⟩:=hs2.2 k hlt
     have jS:=fun w'=>lQ (ab:=w.heap.size+1) (aV:=0) (n:=t.nodes.length) (cap:=t.nodes.length) (show (k:Int)=((k:Nat):Int) by rfl) hlt w'
     by_cases hks:(k:Int)∈S
     ·rw [ar hks]at s0
      have HS:=hdd hks
      clear hks
      go_wp2
      go_roundg (t.nodes.length-(k+1))
      case measure=>omega
      case rel=>
       refine⟨k+1,af,rfl,by go_num,fun i hi=>?_,rfl⟩
       by_cases h:i=k
       ·rw [h];exact HS.out
       ·exact HA'.out i af
     ·rw [ai hks]at s0
      have HS:=hdd (show aej t=7 by rw [XR.out];exact ai fun h=>hks (h k hlt))
      clear hks
      go_wp2
      go_ret
      exact⟨gZ HS.out.symm,hb2⟩
    ·have HS:=hdd (show aej t=0 by rw [XR.out];exact ar fun i hi=>HA'.out i af)
     go_wp2
     go_ret
     exact⟨gZ HS.out.symm,hb2⟩
end
section
set_option maxRecDepth 100000
set_option maxHeartbeats 1000000
def nZ (B:Nat) (w:World) (f:Int) (r:Option (List aC)) (e:Ending) (w':World):Prop:=
 Below B w w'/\(f≠0->e = .returned (.tuple #[.slice none 0 0, .int .i64 f]))/\(f=0->match r with|none=>e = .returned (.tuple #[.slice none 0 0, .int .i64 1])|some l=>∃v',e = .returned (.tuple #[v', .int .i64 0])/\au B w' v' l)
theorem aeA {v:Value} {t:Tr} {lo hi:Int} {w:World} (h:bM w v t) :
  Calls Tryd.prog 77 #[v, .int .i64 lo, .int .i64 hi] w (nZ w.heap.size w (ax t) (kI t lo hi)):=by
 obtain⟨nv,rfl,hn⟩:=h
 obtain⟨⟨ao,cap,rfl⟩,hlen⟩:=hn.len
 obtain⟨W0,hW0⟩:=bP (w.alloc (.cells #[.slice ao t.nodes.length cap, .int .i64 t.root] 32))
 have hb0:ah w W0:=by rw [hW0];exact(aI _ _).alloc aH _
 have hz0:W0.heap.size=w.heap.size+1:=by rw [hW0];simp
 have k0:W0.heap[w.heap.size]?=some (.cells #[.slice ao t.nodes.length cap, .int .i64 t.root] 32):=by
  rw [hW0];exact aj _ _ rfl
 have HX:=hdd fun w' (hb:Below (w.heap.size+1) W0 w')=>(by
  have b0:w'.heap[w.heap.size]?=_:=(hb.block _ af).trans k0
  simp [World.cell?,b0] :
  w'.cell? ⟨w.heap.size,0,none⟩=some (.slice ao t.nodes.length cap)/\w'.cell? ⟨w.heap.size,1,none⟩=some (.int .i64 t.root))
 have HB:=hdd fun w' (hb:Below (w.heap.size+1) W0 w')=>(Below.trans' hb0 (hb.mono af) af:ah w w')
 have HG:=hdd hn
 have HF:=hdd (afd (t:=t) (w:=W0) (v:= .agg #[.slice ao t.nodes.length cap, .int .i64 t.root]) ⟨_,rfl,hn.below hb0 aH⟩)
 have k1:W0.cell? ⟨w.heap.size,0,none⟩=some (.slice ao t.nodes.length cap)/\W0.cell? ⟨w.heap.size,1,none⟩=some (.int .i64 t.root):=by simp [World.cell?,k0]
 obtain⟨k1,k2⟩:=k1
 go_enter Tryd.func77,Tryd.ntmps77
 go_upto_region 1 with (fail)
 rw [<-hW0]
 clear hW0 k0
 by_cases hf:ax t=0
 ·rw [hf]at HF
  go_wp2_with ((go_at_call 98;(with_reducible refine HF.out.mono ?_);rintro e w1 ⟨rfl,hb1⟩))
  have BN:Below (w.heap.size+1) W0 w1:=hb1.mono af
  go_loopg [8,9,10] t.nodes.length (fun g er out i wr=>∃(k:Nat) (es:List aC),k<=t.nodes.length/\g=t.nodes.length-k/\i = .int .i64 k/\er = .int .i64 0/\au (w.heap.size+1) wr out es/\Hid (∀x,adD t lo hi k x 0 es)/\Below (w.heap.size+1) W0 wr)
  case atStart=>exact⟨0,[],jd _,rfl,rfl,rfl,au.nil _ _,hdd (fun x=>afA t lo hi x),BN⟩
  case round=>
   obtain⟨i,es,hk,rfl,rfl,rfl,hown,Ie,hbW⟩:=hrel
   obtain⟨so,sc,rfl⟩:=hown.isSlice
   obtain⟨q0,q1⟩:=HX.out _ hbW
   by_cases hlt:i<t.nodes.length
   ·obtain⟨x,hx⟩:∃x,t.nodes[i]?=some x:=⟨t.nodes[i],by simp [hlt]⟩
    obtain⟨nb,gL,cap',r,e0,hnb,⟨-,hE,-,-,xa⟩,-,r1,-,-,r4⟩:=HG.out.get hx
    injection e0 with e0 _ e2
    subst e0 e2
    obtain⟨ae,ne,hae⟩:=hE.isSlice
    obtain⟨ab,o8,hab⟩:=xa.isSlice
    rw [hae]at r1 hE
    rw [hab]at r4 xa
    have hle:=hE.len aW
    have hlb:=xa.len aW
    have hall:x.all.length=x.aF.length+x.buf.length:=by simp [Nd.all]
    have HC:=hdd fun w' (hb:Below (w.heap.size+1) W0 w')=>aL (((HB.out w' hb).cell (p:=⟨nb,gL+i*5+1,none⟩) hnb).trans r1) (((HB.out w' hb).cell (p:=⟨nb,gL+i*5+4,none⟩) hnb).trans r4)
    have RL:=hdd hE
    have Zy:=hdd xa
    have A4:=hdd hx
    have hwa:IntKind.i64.wrap ((x.aF.length:Int)+(x.buf.length:Int))=(x.aF.length:Int)+(x.buf.length:Int):=IntWalk.i64_in _ af
    have iu:=fun w'=>dR (ab:=nb) (aV:=gL) (n:=t.nodes.length) (cap:=cap) (show (i:Int)=((i:Nat):Int) by rfl) hlt w'
    clear hE xa r1 r4 hae hab hx
    go_wp2_with fail
    go_loopg [8,9,11] x.all.length (fun g er out jj wr2=>∃(k:Nat) (es:List aC),k<=x.all.length/\g=x.all.length-k/\jj = .int .i64 k/\er = .int .i64 0/\au (w.heap.size+1) wr2 out es/\Hid (adD t lo hi i x k es)/\Below (w.heap.size+1) W0 wr2)
    case atStart=>exact⟨0,es,jd _,rfl,rfl,rfl,hown,hdd (Ie.out x),hbW⟩
    case round=>
     clear hown hbW q0 q1
     obtain⟨k,es,hk2,rfl,rfl,rfl,hown,agt,hbW⟩:=hrel
     obtain⟨so,sc,rfl⟩:=hown.isSlice
     obtain⟨q0,q1⟩:=HX.out _ hbW
     obtain⟨c1,c4⟩:=HC.out _ hbW
     have hsz:w.heap.size+1<=wr.heap.size:=by have:=hbW.size;omega
     have n0:w.heap.size<wr.heap.size:=af
     have n1:w.heap.size≠wr.heap.size:=af
     have n2:wr.heap.size≠w.heap.size:=af
     have n3:nb<wr.heap.size:=af
     have n4:nb≠wr.heap.size:=af
     have n5:wr.heap.size≠nb:=af
     by_cases jJ:k<x.all.length
     ·have zJ:(k:Int)<(x.aF.length:Int)+(x.buf.length:Int):=af
      obtain⟨y,hy⟩:=bt (x.all[k])
      have HY:=hdd hy
      clear hy
      go_wp2_with fail
      go_cut [41] (fun c wx=>c = .bool true/\au (w.heap.size+1) wx (.slice so es.length sc) es/\Below (w.heap.size+1) W0 wx)
      case first=>
       go_quiet (fail)
       go_wp2
       go_meet
       exact⟨rfl,(by repeat (first|assumption|with_reducible refine au.alloc ?_ _|with_reducible refine au.drewN ?_ _|with_reducible refine au.drew ?_)),ag⟩
      case rest=>
       clear hown hbW q0 q1 c1 c4 hsz n0 n1 n2 n3 n4 n5
       obtain⟨rfl,hown,hbW⟩:=hcut
       obtain⟨W8,mM⟩:=bP (wc)
       subst mM
       obtain⟨q0,q1⟩:=HX.out _ hbW
       obtain⟨c1,c4⟩:=HC.out _ hbW
       have hsz:w.heap.size+1<=W8.heap.size:=by have:=hbW.size;omega
       have n0:w.heap.size<W8.heap.size:=af
       have n3:nb<W8.heap.size:=af
       go_upto_if 53 with (fail)
       go_cut [] (fun wx=>wx.heap[W8.heap.size]?=some (.cells #[.int .i64 y.key, .int .i64 y.is.c, .int .i64 y.is.s, .int .i64 y.is.mi, .int .i64 y.is.ma, .int .i64 y.is.t, .int .i64 y.is.l] 96)/\au (w.heap.size+1) wx (.slice so es.length sc) es/\Below (w.heap.size+1) W0 wx)
       case first=>
        by_cases su:k<x.aF.length
        ·have oW:x.aF[k]=y:=by rw [<-HY.out];simp [Nd.all,List.getElem_append_left,su]
         obtain⟨ao',ca',hv,-,-,-,-,h5⟩:=RL.out
         injection hv with g1 _ g3
         subst g1 g3
         obtain⟨eb,eB,rfl,si,nE⟩:=h5 af
         obtain⟨y0,y1,y2,y3,y4,y5,y6⟩:=bU (HB.out _ hbW) si nE su
         rw [oW]at y0 y1 y2 y3 y4 y5 y6
         have n6:eb<W8.heap.size:=af
         clear nE h5 oW RL Zy
         go_wp2
         go_meet
         refine⟨?_,?_,?_⟩
         ·with_reducible exact aj _ _ rfl
         ·exact(by repeat (first|assumption|with_reducible refine au.alloc ?_ _|with_reducible refine au.drewN ?_ _|with_reducible refine au.drew ?_))
         ·exact ag
        ·obtain⟨m,hm⟩:=bP (k-x.aF.length)
         have hmb:m<x.buf.length:=af
         have oW:x.buf[m]=y:=by
          rw [<-HY.out];simp only [Nd.all];rw [List.getElem_append_right af];congr 1
         obtain⟨ao',ca',hv,-,-,-,-,h5⟩:=Zy.out
         injection hv with g1 _ g3
         subst g1 g3
         obtain⟨eb,eB,rfl,si,nE⟩:=h5 af
         have hwk:IntKind.i64.wrap ((k:Int)-(x.aF.length:Int))=(k:Int)-(x.aF.length:Int):=IntWalk.i64_in _ af
         have se:(k:Int)-(x.aF.length:Int)=((m:Nat):Int):=by rw [hm,Int.ofNat_sub af]
         have GY:=fun w'=>dw (ab:=eb) (aV:=eB) (n:=x.buf.length) (cap:=o8) se hmb w'
         clear se hm
         go_wp2_with fail
         obtain⟨W9,jz⟩:=bP (W8.alloc (.cells #[.int .i64 0, .int .i64 0, .int .i64 0, .int .i64 0, .int .i64 0, .int .i64 0, .int .i64 0] 96))
         have pS:Below (w.heap.size+1) W0 W9:=by rw [jz];exact ag
         have apE:ah W8 W9:=by rw [jz];exact ag
         have k9:W9.heap[W8.heap.size]?=some (.cells #[.int .i64 0, .int .i64 0, .int .i64 0, .int .i64 0, .int .i64 0, .int .i64 0, .int .i64 0] 96):=by rw [jz];exact aj _ _ rfl
         have f9:∀o,W9.frozen? ⟨W8.heap.size,o,none⟩=false:=fun o=>by simp [World.frozen?,k9]
         obtain⟨z0,z1,z2,z3,z4,z5,z6⟩:W9.cell? ⟨W8.heap.size,0,none⟩=some (.int .i64 0)/\W9.cell? ⟨W8.heap.size,1,none⟩=some (.int .i64 0)/\W9.cell? ⟨W8.heap.size,2,none⟩=some (.int .i64 0)/\W9.cell? ⟨W8.heap.size,3,none⟩=some (.int .i64 0)/\W9.cell? ⟨W8.heap.size,4,none⟩=some (.int .i64 0)/\W9.cell? ⟨W8.heap.size,5,none⟩=some (.int .i64 0)/\W9.cell? ⟨W8.heap.size,6,none⟩=some (.int .i64 0):=by simp [World.cell?,k9]
         rw [<-jz]
         obtain⟨y0,y1,y2,y3,y4,y5,y6⟩:=bU (HB.out _ pS) si nE hmb
         rw [oW]at y0 y1 y2 y3 y4 y5 y6
         clear q0 q1 c1 c4 jz nE h5 oW RL Zy
         obtain⟨q0,q1⟩:=HX.out _ pS
         obtain⟨c1,c4⟩:=HC.out _ pS
         refine wp_region_still_tail 17 bT bT ?_
         (simp only [List.take_succ_cons,List.take_zero,List.drop_succ_cons,List.drop_zero];(repeat ((with_reducible refine wpStill_step (fun K hK=>?_));go_simp;(with_reducible refine hK _ ?_);clear hK K));(with_reducible refine wpStill_nil ?_))
         change wpList _ _ _ _ _ W9.drew
         go_wp2
         go_meet
         refine⟨?_,?_,?_⟩
         ·first|(with_reducible exact afj k9)|(with_reducible refine af4 ?_;with_reducible exact afj k9)
         ·exact hown.below (show ah W8 _ from ag) aH
         ·exact ag
       case rest=>
        clear hown hbW q0 q1 c1 c4
        obtain⟨k8,hown,hbW⟩:=hcut
        have Sp:w.heap.size+1<=wc.heap.size:=by have:=hbW.size;omega
        obtain⟨p0,p1,p2,p3,p4,p5,p6⟩:wc.cell? ⟨W8.heap.size,0,none⟩=some (.int .i64 y.key)/\wc.cell? ⟨W8.heap.size,1,none⟩=some (.int .i64 y.is.c)/\wc.cell? ⟨W8.heap.size,2,none⟩=some (.int .i64 y.is.s)/\wc.cell? ⟨W8.heap.size,3,none⟩=some (.int .i64 y.is.mi)/\wc.cell? ⟨W8.heap.size,4,none⟩=some (.int .i64 y.is.ma)/\wc.cell? ⟨W8.heap.size,5,none⟩=some (.int .i64 y.is.t)/\wc.cell? ⟨W8.heap.size,6,none⟩=some (.int .i64 y.is.l):=by simp [World.cell?,k8]
        clear k8
        by_cases hin:lo<=y.key/\y.key<hi
        ·obtain⟨i1,i2⟩:=hin
         have cp:=hdd (show aR lo hi (x.all[k]'jJ)=true by rw [HY.out];simp [aR,i1,i2])
         obtain⟨hce,apj⟩:=agn hf A4.out agt.out
         have fo:=hdd (adY (v:= .slice so es.length sc) (xs:=es) (x:=y) (w:=wc) (hown.at af) (fun e he=>(hce e he).2) (by rw [<-HY.out];exact agf hf A4.out jJ) af)
         clear hce
         cases hI:jI es y with
         |none=>
          have HR:=hdd (agj A4.out jJ agt.out cp.out (by rw [HY.out];exact hI))
          rw [hI]at fo
          clear hI
          go_wp2_with ((go_at_call 48;(with_reducible refine fo.out.mono ?_);rintro e w6 ⟨jf,rfl⟩))
          go_ret2
          rw [HR.out]
          exact⟨Below.trans' (HB.out _ hbW) jf af,fun h=>by first|exact absurd hf h|exact(h rfl).elim,fun _=>rfl⟩
         |some es'=>
          have N5:=hdd (agi jJ agt.out cp.out (by rw [HY.out];exact hI))
          rw [hI]at fo
          clear hI
          go_wp2_with ((go_at_call 48;(with_reducible refine fo.out.mono ?_);rintro e w6 ⟨jf,v6,rfl,CE⟩;obtain⟨s6,c6,rfl⟩:=CE.isSlice))
          go_roundg (x.all.length-(k+1))
          case measure=>omega
          case rel=>exact⟨k+1,es',af,rfl,by go_num,rfl,CE.mono af,N5,Below.trans' hbW jf Sp⟩
        ·have cp:=hdd (show aR lo hi (x.all[k]'jJ)=false by rw [HY.out];simp only [aR,Bool.and_eq_false_iff,decide_eq_false_iff_not];omega)
         have N5:=hdd (agp jJ agt.out cp.out)
         by_cases i1:lo<=y.key
         ·have i2:hi<=y.key:=af
          clear hin
          go_wp2
          go_roundg (x.all.length-(k+1))
          case measure=>omega
          case rel=>exact⟨k+1,es,af,rfl,by go_num,rfl,hown,N5,hbW⟩
         ·have i2:y.key<lo:=af
          clear hin
          go_wp2
          go_roundg (x.all.length-(k+1))
          case measure=>omega
          case rel=>exact⟨k+1,es,af,rfl,by go_num,rfl,hown,N5,hbW⟩
     ·have hge:¬(k:Int)<(x.aF.length:Int)+(x.buf.length:Int):=af
      have AE:=hdd fun z=>agq (y:=z) A4.out af agt.out
      go_wp2_with fail
      go_quiet (fail)
      go_wp2
      go_roundg (t.nodes.length-(i+1))
      case measure=>omega
      case rel=>exact⟨i+1,es,af,rfl,by go_num,rfl,(by repeat (first|assumption|with_reducible refine au.alloc ?_ _|with_reducible refine au.drewN ?_ _|with_reducible refine au.drew ?_)),hdd fun z=>AE.out z,ag⟩
   ·have HR:=hdd (ah0 (x:=default) af (Ie.out default))
    go_wp2
    go_ret2
    rw [HR.out]
    exact⟨HB.out _ hbW,fun h=>by first|exact absurd hf h|exact(h rfl).elim,fun _=>⟨_,rfl,hown.mono af⟩⟩
 ·have HR:=hdd hf
  have hf':(ax t != 0)=true:=by simp [hf]
  go_wp2_with ((go_at_call 98;(with_reducible refine HF.out.mono ?_);rintro e w1 ⟨rfl,hb1⟩))
  go_ret2
  exact⟨HB.out _ (hb1.mono af),fun _=>rfl,fun h=>absurd h HR.out⟩
end
end Go.Proofs.YtmljjfhgciaceaaDoor
