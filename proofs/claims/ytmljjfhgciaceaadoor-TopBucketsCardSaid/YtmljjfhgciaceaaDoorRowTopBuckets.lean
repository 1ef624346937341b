import Derived.Test.YtmljjfhgciaceaaDoorHd
import Derived.Test.YtmljjfhgciaceaaDoorPA
import Derived.Test.YtmljjfhgciaceaaDoorCards
import Derived.Test.YtmljjfhgciaceaaDoorLawTopBuckets
import Derived.Test.YtmljjfhgciaceaaDoorKT
namespace Go.Proofs.YtmljjfhgciaceaaDoor
open Go.ChangeShapes Go.WideShapes Go.ChangeAt Go.RowKit
set_option maxRecDepth 100000
theorem xF {H:Type}:∀ds:List (DataW H),ds.length=Tryd.f4.params.size->Rows.topBucketsSpec.fn H (ds++[])={ results:=[.lit (.bool true)],args:=ds }:=by
 intro ds hds
 match ds,hds with
 |[_,_],_=>rfl
theorem ug (os:Os) (started:os.Started) (H:Type) (enc:TypeId×Value->H) :
  ReturnsInHanded {} Tryd.checked os 4 .any (fun w args=>(Rows.topBucketsSpec.pre enc Tryd.prog Tryd.f4 [] false w args/\laidMetH Tryd.prog Dy w)/\sizedMet enc Tryd.prog Tryd.f4 (OpenSpec.ofChange Rows.topBucketsSpec) false w args) (Rows.topBucketsSpec.post enc Tryd.prog Tryd.f4 false true false false):=by
 refine yT (C:=Tryd.checked) (tb:=4) (L:=Dy) Tryd.own started cy Tryd.func4
  (ChangeSpec.witness_shaped (enc:=enc) (C:=Tryd.checked) (os:=os) (X:=fun w _=>laidMetH Tryd.prog Dy w) false (World.doorLaid Tryd.prog 14 os) #[.slice none 0 0, .int .i64 0] 8 rfl (World.shaped_of_RefB cy cy) cy cy cy (Ns os _))
  Tryd.laidOut (by rw [show Tryd.f4.params=_ from Tryd.params4];intro t ht;simp at ht;rcases ht with ht|ht <;> subst ht <;> exact⟨cy,iX cy⟩) rfl rfl Tryd.underlying4 xF ?_
 intro W base args ds ps hval0 hA0 hlt Wh hL
 have SZ:=Ae hL
 have hval:∀(j:Nat) t v,Tryd.f4.params[j]?=some t->args[j]?=some v->Value.okWide Tryd.prog W .any base t v:=hval0
 have hA:DataW.TrodAll enc Tryd.prog W 0 (fun _=>true) true Tryd.f4.params.toList args.toList ds ps:=hA0
 have hsz:(DataW.weightsEach Tryd.prog Tryd.f4.params.toList ds).all (·<=reachBytes)=true:=Wh
 rw [Tryd.params4]at hA hval hsz
 clear hA0 hval0 Wh
 obtain⟨v0,v1,d0,d1,p0,p1,rfl,rfl,rfl,h0,h1⟩:=trodAll_two hA
 obtain⟨x0,a0,q0⟩:=FT (hval 0 _ v0 rfl rfl) h0 (fun m hm=>Fl hsz (j:=0) rfl rfl m hm)
 obtain⟨n1,rfl,wl1,wh1⟩:=open_int' (hval 1 _ v1 rfl rfl) h1
 exact yA a0 q0 ⟨wl1,wh1⟩ SZ
theorem topBuckets_holds:Rows.TopBucketsSaid:=
 OpenClaim.holds_of_wide 4 Tryd.f4 rfl rfl rfl rfl rfl rfl rfl ⟨rfl,rfl,rfl,rfl,rfl⟩ rfl rfl rfl rfl rfl cy Tryd.func4 cy
  (iX cy) (by unfold Func.isWrapper;rw [ai (XS cy)];exact⟨rfl,rfl⟩)
  (fun os started H enc _=>ug os started H enc)
theorem topBuckets_card:Rows.TopBucketsCardSaid:=
 Claim7.holds_tied_plain_at .later [] [.widerDeep] true _ false
  topBuckets_holds (fun _ h=>by cases h) cy (fun _ h=>by cases h) topBuckets_row_tie rfl ⟨rfl,rfl⟩ cy rfl
  (fun f fn hf hfn=>by
   obtain rfl : f = 4 := Option.some.inj ((show Tryd.prog.funcNamed "winnower/winnowertop.TopBuckets" = some 4 by kernel_rfl).symm.trans hf) |>.symm
   obtain rfl:fn=Tryd.f4:=(dw (Tryd.func4.symm.trans hfn)).symm
   exact⟨cy,fun j t ht=>by
    rw [Tryd.params4]at ht
    have hm:t∈[22,3]:=by simpa using ac5 ht
    have hall:([22,3].all fun u=>!Tryd.prog.wantsStandIn u)=true:=cy
    exact(show Tryd.prog.wantsStandIn t=false by simpa using pA.1 hall t hm)⟩)
  cy
#print axioms topBuckets_card
end Go.Proofs.YtmljjfhgciaceaaDoor
