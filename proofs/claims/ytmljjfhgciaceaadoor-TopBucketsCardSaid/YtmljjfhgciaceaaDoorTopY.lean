import Derived.Test.YtmljjfhgciaceaaDoorHd
import Derived.Test.YtmljjfhgciaceaaDoorTopW
import Derived.Test.YtmljjfhgciaceaaDoorTopR
import Derived.Test.YtmljjfhgciaceaaDoorKB
namespace Go.Proofs.YtmljjfhgciaceaaDoor
open Go.RowKit
theorem Dc {n m:Int} {w:World} (hn:i64 n) (hm:1<=m) (hm2:m<=9223372036854775807) :
  Calls Tryd.prog 13 #[.int .i64 n, .int .i64 m] w fun e w'=>e = .returned (.int .i64 (picked n m))/\ah w w':=by
 have HP:=hdd (nV n m w hn.1 hn.2 hm hm2)
 clear hn hm hm2
 obtain⟨q,hq⟩:=bw (picked n m)
 rw [hq]at HP ⊢
 clear hq
 go_enter Tryd.func13,Tryd.ntmps13
 go_wp2_with (go_at_call 29;(with_reducible refine HP.out.mono ?_);rintro e w2 ⟨rfl,hb2⟩)
 go_ret
 exact⟨rfl,ag⟩
theorem Ua {xs:List Ac} {qs:List qx} {B:Nat} {w':World} {v:Value} (an:qs.map qx.an=lZ St.zero xs) (own:dZ B w' v qs) (rows:∀q∈qs,OwnRows B w' q.v q.an.rows) (ok:∀j,j<=xs.length->(iC St.zero (xs.take j)).m.Ok j) (hl:xs.length<=500) {W:World} (hb:ah w' W) :
  RM W v qs/\∀q∈qs,eQ W q.v q.an.rows:=by
 have hq:qs.length=xs.length:=by
  have:=congrArg List.length an
  rwa [nA,ng]at this
 refine⟨(own.below hb aI).at af,fun q hq=>((rows q hq).below hb aI).at (Qk ok hl q.an ?_)⟩
 rw [<-an]
 exact List.mem_map_of_mem hq
end Go.Proofs.YtmljjfhgciaceaaDoor
