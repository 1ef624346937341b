/- Texts of mine that come as one: Series. -/
import Derived.Test.YtmljjfhgciaceaaDoorHd
import Derived.Test.YtmljjfhgciaceaaDoorPS
import Derived.Test.YtmljjfhgciaceaaDoorPC
namespace Go.Proofs.YtmljjfhgciaceaaDoor
open Go.RowKit
section
set_option maxRecDepth 100000
set_option maxHeartbeats 1000000
theorem aei {v:Value} {xs:List ByteArray} {s:ByteArray} {w:World} (h:jN w v xs) :
  Calls Tryd.prog 46 #[v, .string s] w fun e w'=>e = .returned (.int .i64 (aS xs s))/\w'=w:=by
 obtain⟨ao,cap,rfl,a1,a2,a3,a4,a5⟩:=h
 go_enter Tryd.func46,Tryd.ntmps46
 go_wp2_with fail
 go_loopg [5] xs.length (fun g i wr=>∃k:Nat,k<=xs.length/\g=xs.length-k/\i = .int .i64 k/\Hid (∀j (hj:j<k) (hjn:j<xs.length),xs[j]≠s)/\wr=w)
 case atStart=>exact⟨0,jd _,rfl,rfl,hdd (fun j hj=>af),rfl⟩
 case round=>
  obtain⟨k,hk,rfl,rfl,HN,rfl⟩:=hrel
  by_cases hlt:k<xs.length
  ·obtain⟨ab,aV,rfl,sO,ac⟩:=a5 af
   have e0:=vL (aI _ _) sO ac hlt
   obtain⟨y,hy⟩:=bt (xs[k])
   rw [hy]at e0
   have HY:=hdd hy
   have jS:=fun w'=>CA (ab:=ab) (aV:=aV) (n:=xs.length) (cap:=cap) (show (k:Int)=((k:Nat):Int) by rfl) hlt w'
   have K5:=Lv y s
   clear ac a5 hy
   by_cases GK:y=s
   ·have HP:=hdd (uo hlt (HY.out.trans GK) HN.out)
    have We:decide (y=s)=true:=by simp [GK]
    rw [We]at K5
    clear GK We
    go_wp2
    go_ret
    rw [HP.out]
    exact⟨rfl,rfl⟩
   ·have FH:=hdd (show ∀j (hj:j<k+1) (hjn:j<xs.length),xs[j]≠s from fun j hj hjn=>by
     by_cases hjk:j=k
     ·subst hjk;rw [HY.out];exact GK
     ·exact HN.out j af hjn)
    have We:decide (y=s)=false:=by simp [GK]
    rw [We]at K5
    clear GK We
    go_wp2
    go_roundg (xs.length-(k+1))
    case measure=>omega
    case rel=>exact⟨k+1,af,rfl,by go_num,FH,rfl⟩
  ·have HP:=hdd (zi (xs:=xs) (s:=s) fun j hj=>HN.out j af hj)
   go_wp2
   go_ret
   rw [HP.out]
   exact⟨rfl,rfl⟩
end
end Go.Proofs.YtmljjfhgciaceaaDoor
