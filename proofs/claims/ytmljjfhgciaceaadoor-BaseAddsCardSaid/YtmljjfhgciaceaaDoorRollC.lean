import Derived.Test.YtmljjfhgciaceaaDoorHd
import Derived.Test.YtmljjfhgciaceaaDoorKG
namespace Go.Proofs.YtmljjfhgciaceaaDoor
open Go.RowKit
theorem ahq (t v:Int) (w:World):Calls Tryd.prog 45 #[.int .i64 t, .int .i64 v] w fun e w'=>e = .returned (.tuple #[(fF t v).1.v, .int .i64 (fF t v).2])/\ah w w':=by
 by_cases h:0<=t/\t<=1048575/\-1000000<=v/\v<=1000000
 ·have hr:fF t v=(⟨1,v,v,v,t,v⟩,0):=by simp [fF,h]
  obtain⟨h1,h2,h3⟩:=h
  rw [hr]
  have hw:av v (-1000000) 1000000=true:=acY.2 h3
  have hw2:av t 0 1048575=true:=acY.2 ⟨h1,h2⟩
  clear hr
  go_enter Tryd.func45,Tryd.ntmps45
  go_wp2_with (go_at_call 76;refine(ac2 _ _ _ _).mono ?_;rintro e w' ⟨rfl,rfl⟩)
  exact bodyPost_ret (v:= .tuple #[.agg #[.int .i64 1, .int .i64 v, .int .i64 v, .int .i64 v, .int .i64 t, .int .i64 v], .int .i64 0]) (by simp [results,Tryd.results45,go_sem]) rfl ⟨rfl,(by repeat (first|exact aI _ _|assumption|refine Below.drew ?_|refine Below.alloc ?_ (by simp <;> omega) _|refine Below.setCell ?_ (by simp <;> omega) _))⟩
 ·have hr:fF t v=(aw.zero,2):=by simp [fF,h]
  rw [hr]
  clear hr
  by_cases h1:0<=t/\t<=1048575
  ·have hw:av v (-1000000) 1000000=false:=adV.2 af
   have hw2:av t 0 1048575=true:=acY.2 h1
   go_enter Tryd.func45,Tryd.ntmps45
   go_wp2_with (go_at_call 76;refine(ac2 _ _ _ _).mono ?_;rintro e w' ⟨rfl,rfl⟩)
   exact bodyPost_ret (v:= .tuple #[.agg #[.int .i64 0, .int .i64 0, .int .i64 0, .int .i64 0, .int .i64 0, .int .i64 0], .int .i64 2]) (by simp [results,Tryd.results45,go_sem]) rfl ⟨rfl,(by repeat (first|exact aI _ _|assumption|refine Below.drew ?_|refine Below.alloc ?_ (by simp <;> omega) _|refine Below.setCell ?_ (by simp <;> omega) _))⟩
  ·have hw2:av t 0 1048575=false:=adV.2 af
   go_enter Tryd.func45,Tryd.ntmps45
   go_wp2_with (go_at_call 76;refine(ac2 _ _ _ _).mono ?_;rintro e w' ⟨rfl,rfl⟩)
   exact bodyPost_ret (v:= .tuple #[.agg #[.int .i64 0, .int .i64 0, .int .i64 0, .int .i64 0, .int .i64 0, .int .i64 0], .int .i64 2]) (by simp [results,Tryd.results45,go_sem]) rfl ⟨rfl,(by repeat (first|exact aI _ _|assumption|refine Below.drew ?_|refine Below.alloc ?_ (by simp <;> omega) _|refine Below.setCell ?_ (by simp <;> omega) _))⟩
end Go.Proofs.YtmljjfhgciaceaaDoor
