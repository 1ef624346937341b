import Derived.Test.YtmljjfhgciaceaaGreatDoorHd
import Derived.Test.YtmljjfhgciaceaaGreatDoorCz
import Derived.Test.YtmljjfhgciaceaaGreatDoorKG
namespace Go.Proofs.YtmljjfhgciaceaaGreatDoor
open Go.RowKit
theorem Ov (t v:Int) (w:World):Calls Tryz.prog 47 #[af t,af v] w fun e w'=>e = .returned (.tuple #[(ej t v).1.v,af (ej t v).2])/\aq w w':=by
 by_cases h:0<=t/\t<=1048575/\-1000000<=v/\v<=1000000
 ·have hr:ej t v=(⟨1,v,v,v,t,v⟩,0):=by simp [ej,h]
  obtain⟨h1,h2,h3⟩:=h;rw [hr];have hw:mn v (-1000000) 1000000=true:=gX.2 h3;have hw2:mn t 0 1048575=true:=gX.2 ⟨h1,h2⟩;clear hr;go_enter Tryz.func47,Tryz.ntmps47;go_wp2_with (go_at_call 51;refine(dH _ _ _ _).mono ?_;rintro e w' ⟨rfl,rfl⟩);exact bW (v:= .tuple #[.agg #[af 1,af v,af v,af v,af t,af v],af 0]) (by simp [results,Tryz.results47,go_sem]) rfl ⟨rfl,fA⟩
 ·have hr:ej t v=(ax.zero,2):=by simp [ej,h]
  rw [hr];clear hr;by_cases h1:0<=t/\t<=1048575
  ·have hw:mn v (-1000000) 1000000=false:=nK.2 ai;have hw2:mn t 0 1048575=true:=gX.2 h1;go_enter Tryz.func47,Tryz.ntmps47;go_wp2_with (go_at_call 51;refine(dH _ _ _ _).mono ?_;rintro e w' ⟨rfl,rfl⟩);exact bW (v:= .tuple #[.agg #[af 0,af 0,af 0,af 0,af 0,af 0],af 2]) (by simp [results,Tryz.results47,go_sem]) rfl ⟨rfl,fA⟩
  ·have hw2:mn t 0 1048575=false:=nK.2 ai;go_enter Tryz.func47,Tryz.ntmps47;go_wp2_with (go_at_call 51;refine(dH _ _ _ _).mono ?_;rintro e w' ⟨rfl,rfl⟩);exact bW (v:= .tuple #[.agg #[af 0,af 0,af 0,af 0,af 0,af 0],af 2]) (by simp [results,Tryz.results47,go_sem]) rfl ⟨rfl,fA⟩
end Go.Proofs.YtmljjfhgciaceaaGreatDoor
