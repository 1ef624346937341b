import Derived.Test.YtmljjfhgciaceaaGreatDoorHd
import Derived.Test.YtmljjfhgciaceaaGreatDoorTopW
import Derived.Test.YtmljjfhgciaceaaGreatDoorTopR
import Derived.Test.YtmljjfhgciaceaaGreatDoorKB
namespace Go.Proofs.YtmljjfhgciaceaaGreatDoor
open Go.RowKit
theorem qV {n m:Int} {w:World} (hn:i64 n) (hm:1<=m) (hm2:m<=9223372036854775807) :
  Calls Tryz.prog 10 #[.int .i64 n, .int .i64 m] w fun e w'=>e = .returned (.int .i64 (picked n m))/\ah w w':=by
 have HP:=hdd (nQ n m w hn.1 hn.2 hm hm2)
 clear hn hm hm2
 obtain⟨q,hq⟩:=bC (picked n m)
 rw [hq]at HP ⊢
 clear hq
 go_enter Tryz.func10,Tryz.ntmps10
 go_wp2_with (go_at_call 27;(with_reducible refine HP.out.mono ?_);rintro e w2 ⟨rfl,hb2⟩)
 go_ret
 exact⟨rfl,ag⟩
theorem Uk {xs:List Ac} {qs:List qu} {B:Nat} {w':World} {v:Value} (an:qs.map qu.an=lu St.zero xs) (own:dZ B w' v qs) (rows:∀q∈qs,OwnRows B w' q.v q.an.rows) (ok:∀j,j<=xs.length->(iL St.zero (xs.take j)).m.Ok j) (hl:xs.length<=500) {W:World} (hb:ah w' W) :
  RY W v qs/\∀q∈qs,ft W q.v q.an.rows:=by
 have hq:qs.length=xs.length:=by
  have:=congrArg List.length an
  rwa [po,na]at this
 refine⟨(own.below hb aI).at af,fun q hq=>((rows q hq).below hb aI).at (Qq ok hl q.an ?_)⟩
 rw [<-an]
 exact List.mem_map_of_mem hq
end Go.Proofs.YtmljjfhgciaceaaGreatDoor
