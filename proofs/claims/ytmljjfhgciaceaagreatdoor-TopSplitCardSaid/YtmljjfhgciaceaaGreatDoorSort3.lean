import Derived.Test.YtmljjfhgciaceaaGreatDoorHd
import Derived.Test.YtmljjfhgciaceaaGreatDoorKG
import Derived.RegionTactic
import Derived.BigRegion
namespace Go.Proofs.YtmljjfhgciaceaaGreatDoor
open Go.RowKit
set_option maxRecDepth 100000
set_option maxHeartbeats 4000000
variable {x y z x0 y0 z0:Int} {Q:Int->Prop} {g cap:Nat} {w0 w:World}
theorem Hh (n:Int) (w:World):Calls Tryz.prog 100 #[.int .i64 n] w fun e w'=>e = .returned (.bool false)/\w'=w:=by
 go_enter Tryz.func100,Tryz.ntmps100
 go_wp2
 go_ret
 exact⟨dB bt,rfl⟩
theorem nV (x y:Int) (w:World):Calls Tryz.prog 60 #[.int .i64 x, .int .i64 y] w fun e w'=>e = .returned (.bool (decide (x<y)))/\w'=w:=by
 go_enter Tryz.func60,Tryz.ntmps60
 go_wp2_with (go_at_call 100;refine(Hh _ _).mono ?_;rintro e w' ⟨rfl,rfl⟩)
 go_ret
 exact⟨dB bt,rfl⟩
theorem Sw {j:Nat} (hj:j<3) (w:World):(Instr.indexAt 52 (.slice (some ⟨g,0,none⟩) 3 cap) (.int .i64 (j:Int))).run Tryz.prog w = .ok (.pointer (some ⟨g,j,none⟩)) w:=by
 have h3:¬3<=(j:Int):=af
 go_simp
structure gp (w0:World) (g:Nat) (Q:Int->Prop) (w:World) (x y z:Int):Prop where
 box:w.heap[g]?=some (.cells #[.int .i64 x, .int .i64 y, .int .i64 z] 3)
 qx:Q x
 qy:Q y
 qz:Q z
 below:Below g w0 w
 other:∀b,b≠g->w.heap[b]?=w0.heap[b]?
 size:w.heap.size=w0.heap.size
theorem gp.drew (h:gp w0 g Q w x y z):gp w0 g Q w.drew x y z:=⟨h.box,h.qx,h.qy,h.qz,h.below.drew,h.other,h.size⟩
theorem gp.drewN (h:gp w0 g Q w x y z) (n:Nat):gp w0 g Q (w.drewN n) x y z:=⟨h.box,h.qx,h.qy,h.qz,cC h.below n,h.other,h.size⟩
theorem gp.cells (h:gp w0 g Q w x y z):w.cell? ⟨g,0,none⟩=some (.int .i64 x)/\w.cell? ⟨g,1,none⟩=some (.int .i64 y)/\w.cell? ⟨g,2,none⟩=some (.int .i64 z)/\∀o,w.frozen? ⟨g,o,none⟩=false:=by
 have:=h.box
 simp [World.cell?,World.frozen?,this]
theorem gp.yG (h:gp w0 g Q w x y z):gp w0 g Q ((w.setCell ⟨g,1,none⟩ (.int .i64 x)).setCell ⟨g,0,none⟩ (.int .i64 y)) y x z:=
 ⟨by have:=heap_setCell_same (off:=0) (v:= .int .i64 y) (heap_setCell_same (off:=1) (v:= .int .i64 x) h.box);simpa using this,h.qy,h.qx,h.qz,(h.below.setCell aI _).setCell aI _,fun b hb=>(heap_setCell_other _ ⟨g,_,none⟩ b _ hb).trans ((heap_setCell_other _ ⟨g,_,none⟩ b _ hb).trans (h.other b hb)),by simp only [ay];exact h.size⟩
theorem gp.yF (h:gp w0 g Q w x y z):gp w0 g Q ((w.setCell ⟨g,2,none⟩ (.int .i64 y)).setCell ⟨g,1,none⟩ (.int .i64 z)) x z y:=
 ⟨by have:=heap_setCell_same (off:=1) (v:= .int .i64 z) (heap_setCell_same (off:=2) (v:= .int .i64 y) h.box);simpa using this,h.qx,h.qz,h.qy,(h.below.setCell aI _).setCell aI _,fun b hb=>(heap_setCell_other _ ⟨g,_,none⟩ b _ hb).trans ((heap_setCell_other _ ⟨g,_,none⟩ b _ hb).trans (h.other b hb)),by simp only [ay];exact h.size⟩
def Rz (k m:Nat) (x y z:Int):Prop:=(k=1->m=0->x<=y)/\(k=2->m=2->x<=y)/\(k=2->m=1->x<=z/\y<=z)/\(k=2->m=0->x<=y/\y<=z)
theorem Mm (h:gp w g Q w x0 y0 z0) :
  Calls Tryz.prog 54 #[.slice (some ⟨g,0,none⟩) 3 cap, .int .i64 0, .int .i64 3] w fun e w'=>e = .returned (.tuple #[])/\∃x y z,gp w g Q w' x y z/\x<=y/\y<=z:=by
 have HI:=hdd h
 clear h
 go_enter Tryz.func54,Tryz.ntmps54
 go_wp2
 go_loopg [6] 2 (fun n i wr=>∃k:Nat,1<=k/\k<=3/\n=3-k/\i = .int .i64 k/\Hid (∃x y z,gp w g Q wr x y z/\(2<=k->x<=y)/\(3<=k->y<=z)))
 case atStart=>exact⟨1,af,af,rfl,rfl,hdd ⟨_,_,_,HI.out,af,af⟩⟩
 case round=>
  obtain⟨k,hk1,hk3,rfl,rfl,HR⟩:=hrel
  by_cases hlt:k<3
  ·have hlt':(k:Int)<3:=af
   go_upto_region 4 with (fail)
   go_loopg [7] k (fun n j wr'=>∃m:Nat,m<=k/\m=n/\j = .int .i64 m/\Hid (∃x y z,gp w g Q wr' x y z/\Rz k m x y z))
   case atStart=>
    obtain⟨x,y,z,h1,h2,h3⟩:=HR.out
    exact⟨k,af,rfl,rfl,hdd ⟨x,y,z,h1,af,af,af,af⟩⟩
   case round=>
    clear HR
    obtain⟨m,hm,rfl,rfl,HS⟩:=hrel
    obtain⟨x,y,z,hrow,hin⟩:=HS.out
    obtain⟨c0,c1,c2,cf⟩:=hrow.cells
    have HR:=hdd hrow
    have Yo:=hdd hin
    have i0:=fun w=>Sw (g:=g) (cap:=cap) (j:=0) af w
    have i1:=fun w=>Sw (g:=g) (cap:=cap) (j:=1) af w
    have i2:=fun w=>Sw (g:=g) (cap:=cap) (j:=2) af w
    simp only [Int.cast_ofNat_Int]at i0 i1 i2
    clear hrow hin HS
    obtain rfl|rfl|⟨rfl,rfl⟩:m=0\/m=1\/(m=2/\k=2):=af
    ·go_upto_region 4 with (fail)
     go_quiet (fail)
     go_wp2_with fail
     go_roundg (3-(k+1))
     case measure=>omega
     case rel=>
      have hrow:=HR.out
      have hin:=Yo.out
      unfold Rz at hin
      exact⟨k+1,af,af,rfl,by go_num,hdd ⟨x,y,z,(by repeat (first|with_reducible assumption|refine gp.drewN ?_ _|refine gp.drew ?_|refine gp.yG ?_|refine gp.yF ?_)),af,af⟩⟩
    ·by_cases hl:y<x
     ·have hd:decide (y<x)=true:=decide_eq_true hl
      go_upto_region 4 with (fail)
      go_quiet (first|(go_at_call 60;refine Calls.quiet_of_same (nV _ _ _)))
      go_wp2_with fail
      go_upto_region 6 with (fail)
      go_region
      go_wp2_with fail
      go_roundg 0
      case measure=>omega
      case rel=>
       have hrow:=HR.out
       have hin:=Yo.out
       unfold Rz at hin
       exact⟨0,af,rfl,by go_num,hdd ⟨y,x,z,(by repeat (first|with_reducible assumption|refine gp.drewN ?_ _|refine gp.drew ?_|refine gp.yG ?_|refine gp.yF ?_)),by unfold Rz;omega⟩⟩
     ·have hd:decide (y<x)=false:=tO hl
      go_upto_region 4 with (fail)
      go_quiet (first|(go_at_call 60;refine Calls.quiet_of_same (nV _ _ _)))
      go_wp2_with fail
      go_roundg (3-(k+1))
      case measure=>omega
      case rel=>
       have hrow:=HR.out
       have hin:=Yo.out
       unfold Rz at hin
       exact⟨k+1,af,af,rfl,by go_num,hdd ⟨x,y,z,(by repeat (first|with_reducible assumption|refine gp.drewN ?_ _|refine gp.drew ?_|refine gp.yG ?_|refine gp.yF ?_)),af,af⟩⟩
    ·by_cases hl:z<y
     ·have hd:decide (z<y)=true:=decide_eq_true hl
      go_upto_region 4 with (fail)
      go_quiet (first|(go_at_call 60;refine Calls.quiet_of_same (nV _ _ _)))
      go_wp2_with fail
      go_upto_region 6 with (fail)
      go_region
      go_wp2_with fail
      go_roundg 1
      case measure=>omega
      case rel=>
       have hrow:=HR.out
       have hin:=Yo.out
       unfold Rz at hin
       exact⟨1,af,rfl,by go_num,hdd ⟨x,z,y,(by repeat (first|with_reducible assumption|refine gp.drewN ?_ _|refine gp.drew ?_|refine gp.yG ?_|refine gp.yF ?_)),by unfold Rz;omega⟩⟩
     ·have hd:decide (z<y)=false:=tO hl
      go_upto_region 4 with (fail)
      go_quiet (first|(go_at_call 60;refine Calls.quiet_of_same (nV _ _ _)))
      go_wp2_with fail
      go_roundg (3-(2+1))
      case measure=>omega
      case rel=>
       have hrow:=HR.out
       have hin:=Yo.out
       unfold Rz at hin
       exact⟨2+1,af,af,rfl,by go_num,hdd ⟨x,y,z,(by repeat (first|with_reducible assumption|refine gp.drewN ?_ _|refine gp.drew ?_|refine gp.yG ?_|refine gp.yF ?_)),af,af⟩⟩
  ·obtain⟨x,y,z,h1,h2,h3⟩:=HR.out
   have hlt':¬(k:Int)<3:=af
   have HE:=hdd (show ∃x y z,gp w g Q wr x y z/\x<=y/\y<=z from ⟨x,y,z,h1,af,af⟩)
   clear h1 h2 h3 HR
   go_wp2
   go_end0
   exact⟨rfl,HE.out⟩
theorem Mc (w:World):Calls Tryz.prog 29 #[.int .u64 3] w fun e w'=>e = .returned (.int .i64 2)/\w'=w:=by
 have h64:Calls Tryz.prog 64 #[.int .u64 3] w fun e w'=>e = .returned (.int .i64 2)/\w'=w:=by
  go_enter Tryz.func64,Tryz.ntmps64
  go_wp2
  go_ret
  exact⟨cv,rfl⟩
 go_enter Tryz.func29,Tryz.ntmps29
 go_wp2_with (go_at_call 64;(with_reducible refine h64.mono ?_);rintro e w' ⟨rfl,rfl⟩)
 go_ret
 exact⟨rfl,rfl⟩
theorem LM (h:gp w g Q w x0 y0 z0) :
  Calls Tryz.prog 28 #[.slice (some ⟨g,0,none⟩) 3 cap, .int .i64 0, .int .i64 3, .int .i64 2] w fun e w'=>e = .returned (.tuple #[])/\∃x y z,gp w g Q w' x y z/\x<=y/\y<=z:=by
 have HI:=hdd (Mm (cap:=cap) h)
 clear h
 go_enter Tryz.func28,Tryz.ntmps28
 go_wp2_with fail
 refine wp_loop_rounds 1 ?_
 rw [rounds_succ]
 go_wp2_with (go_at_call 54;(with_reducible refine HI.out.mono ?_);rintro e w' ⟨rfl,hx⟩)
 exact bodyPost_ret (results_none rfl _ _ _) rfl ⟨rfl,hx⟩
theorem Jm (h:gp w g Q w x0 y0 z0) :
  Calls Tryz.prog 11 #[.slice (some ⟨g,0,none⟩) 3 cap] w fun e w'=>e = .returned (.tuple #[])/\∃x y z,gp w g Q w' x y z/\x<=y/\y<=z:=by
 have HI:=hdd (LM (cap:=cap) h)
 clear h
 go_enter Tryz.func11,Tryz.ntmps11
 go_wp2_with (first|(go_at_call 29;(with_reducible refine(Mc _).mono ?_);rintro e w' ⟨rfl,rfl⟩)|(go_at_call 28;(with_reducible refine HI.out.mono ?_);rintro e w' ⟨rfl,hx⟩))
 go_end0
 exact⟨rfl,hx⟩
end Go.Proofs.YtmljjfhgciaceaaGreatDoor
