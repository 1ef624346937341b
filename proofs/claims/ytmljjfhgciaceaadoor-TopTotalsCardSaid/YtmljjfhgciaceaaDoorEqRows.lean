import Derived.Test.YtmljjfhgciaceaaDoorHd
import Derived.Test.YtmljjfhgciaceaaDoorPS
import Derived.Test.YtmljjfhgciaceaaDoorTG
import Derived.Test.YtmljjfhgciaceaaDoorAK
namespace Go.Proofs.YtmljjfhgciaceaaDoor
open Go.RowKit
set_option maxHeartbeats 1000000
theorem abQ {va vb:Value} {xs ys:List aC} {w:World} (ha:fu w va xs) (hb:fu w vb ys) :
  Calls Tryd.prog 66 #[va,vb] w fun e w'=>e = .returned (.bool (decide (xs=ys)))/\ah w w':=by
 obtain⟨ao,ca,rfl,a1,a2,a3,a4,a5⟩:=ha
 obtain⟨bo,cb,rfl,b1,b2,b3,b4,b5⟩:=hb
 by_cases hl:xs.length=ys.length
 ·have hl':((xs.length:Int) != (ys.length:Int))=false:=by simp [hl]
  have HL:=hdd hl
  clear hl
  go_enter Tryd.func66,Tryd.ntmps66
  go_wp2_with fail
  go_loopg [13] xs.length (fun g i wr=>∃k:Nat,k<=xs.length/\g=xs.length-k/\i = .int .i64 k/\Hid (xs.take k=ys.take k)/\ah w wr)
  case atStart=>exact⟨0,jd _,rfl,rfl,hdd bj,aI _ _⟩
  case round=>
   obtain⟨k,hk,rfl,rfl,HE,cZ⟩:=hrel
   by_cases hlt:k<xs.length
   ·obtain⟨ab,aV,rfl,sO,ac⟩:=a5 af
    obtain⟨bb,ahh,rfl,bbb,bc⟩:=b5 (by have:=HL.out;omega)
    have jJ:k<ys.length:=by have:=HL.out;omega
    obtain⟨c0,c1,c2,c3,c4,c5,c6⟩:=bU cZ sO ac hlt
    obtain⟨d0,d1,d2,d3,d4,d5,d6⟩:=bU cZ bbb bc jJ
    clear ac bc a5 b5
    obtain⟨e,he⟩:=bt (xs[k])
    obtain⟨f,hf⟩:=bt (ys[k])
    rw [he]at c0 c1 c2 c3 c4 c5 c6
    rw [hf]at d0 d1 d2 d3 d4 d5 d6
    have EE:=hdd he
    have FF:=hdd hf
    clear he hf
    have hne:=aco e f
    by_cases Re:e=f
    ·have ab6:(decide (e=f))=true:=by simp [Re]
     have UG:=hdd Re
     clear Re
     go_wp2
     go_quiet (fail)
     go_wp2
     go_roundg (xs.length-(k+1))
     case measure=>omega
     case rel=>exact⟨k+1,af,rfl,by go_num,hdd (Ck HE.out hlt jJ (by rw [EE.out,FF.out,UG.out])),(by repeat (first|exact aI _ _|assumption|refine cJ ?_ _|refine Below.drew ?_|refine Below.alloc ?_ (by simp <;> omega) _|refine Below.setCell ?_ (by simp <;> omega) _))⟩
    ·have ab6:(decide (e=f))=false:=by simp [Re]
     have hxy:decide (xs=ys)=false:=by simpa using JM hlt jJ (by rw [EE.out,FF.out];exact Re)
     clear Re
     go_wp2
     go_quiet (fail)
     go_wp2
     go_ret
     exact⟨dP hxy.symm,(by repeat (first|exact aI _ _|assumption|refine cJ ?_ _|refine Below.drew ?_|refine Below.alloc ?_ (by simp <;> omega) _|refine Below.setCell ?_ (by simp <;> omega) _))⟩
   ·have hxy:decide (xs=ys)=true:=by
     have h1:=HE.out
     have h2:=HL.out
     rw [lI af,lI af]at h1
     simpa using h1
    go_wp2
    go_ret
    exact⟨dP hxy.symm,(by repeat (first|exact aI _ _|assumption|refine cJ ?_ _|refine Below.drew ?_|refine Below.alloc ?_ (by simp <;> omega) _|refine Below.setCell ?_ (by simp <;> omega) _))⟩
 ·have hl':((xs.length:Int) != (ys.length:Int))=true:=by simp;omega
  have hxy:decide (xs=ys)=false:=by simp;intro h;subst h;exact hl rfl
  clear hl
  go_enter Tryd.func66,Tryd.ntmps66
  go_wp2_with fail
  go_ret
  exact⟨dP hxy.symm,(by repeat (first|exact aI _ _|assumption|refine cJ ?_ _|refine Below.drew ?_|refine Below.alloc ?_ (by simp <;> omega) _|refine Below.setCell ?_ (by simp <;> omega) _))⟩
end Go.Proofs.YtmljjfhgciaceaaDoor
