import Derived.Test.YtmljjfhgciaceaaDoorHd
import Derived.Test.YtmljjfhgciaceaaDoorPA
import Derived.Test.YtmljjfhgciaceaaDoorCards
import Derived.Test.YtmljjfhgciaceaaDoorLawTopAsking
import Derived.Test.YtmljjfhgciaceaaDoorKT
namespace Go.Proofs.YtmljjfhgciaceaaDoor
open Go.ChangeShapes Go.WideShapes Go.ChangeAt Go.RowKit
set_option maxRecDepth 100000
theorem yT {H:Type}:∀ds:List (DataW H),ds.length=Tryd.f5.params.size->Rows.topAskingSpec.fn H (ds++[])={ results:=[.lit (.bool true)],args:=ds }:=by
 intro ds hds
 match ds,hds with
 |[_],_=>rfl
theorem vJ (os:Os) (started:os.Started) (H:Type) (enc:TypeId×Value->H) :
  ReturnsInHanded {} Tryd.checked os 5 .any (fun w args=>(Rows.topAskingSpec.pre enc Tryd.prog Tryd.f5 [] false w args/\laidMetH Tryd.prog qX w)/\sizedMet enc Tryd.prog Tryd.f5 (OpenSpec.ofChange Rows.topAskingSpec) false w args) (Rows.topAskingSpec.post enc Tryd.prog Tryd.f5 false true false false):=by
 refine ng (C:=Tryd.checked) (tb:=4) (L:=qX) Tryd.own started bT Tryd.func5
  (ChangeSpec.witness_shaped (enc:=enc) (C:=Tryd.checked) (os:=os) (X:=fun w _=>laidMetH Tryd.prog qX w) false (World.doorLaid Tryd.prog 14 os) #[.slice none 0 0] 8 rfl (World.shaped_of_RefB bT bT) bT bT bT (Ad os _))
  Tryd.laidOut (by rw [show Tryd.f5.params=_ from Tryd.params5];intro t ht;simp at ht;subst ht;exact⟨bT,iy bT⟩) rfl rfl Tryd.underlying4 yT ?_
 intro W base args ds ps hval0 hA0 hlt Ek hL
 have SZ:=om hL
 have hval:∀(j:Nat) t v,Tryd.f5.params[j]?=some t->args[j]?=some v->Value.okWide Tryd.prog W .any base t v:=hval0
 have hA:DataW.TrodAll enc Tryd.prog W 0 (fun _=>true) true Tryd.f5.params.toList args.toList ds ps:=hA0
 have hsz:(DataW.weightsEach Tryd.prog Tryd.f5.params.toList ds).all (·<=reachBytes)=true:=Ek
 rw [Tryd.params5]at hA hval hsz
 clear hA0 hval0 Ek
 obtain⟨v0,d0,rfl,rfl,h0⟩:=trodAll_one hA
 obtain⟨x0,a0,q0⟩:=pO (hval 0 _ v0 rfl rfl) h0 (fun m hm=>pD hsz (j:=0) rfl rfl m hm)
 exact AG a0 q0 SZ
theorem topAsking_holds:Rows.TopAskingSaid:=
 OpenClaim.holds_of_wide 5 Tryd.f5 rfl rfl rfl rfl rfl rfl rfl ⟨rfl,rfl,rfl,rfl,rfl⟩ rfl rfl rfl rfl rfl bT Tryd.func5 bT
  (iy bT) (by unfold Func.isWrapper;rw [ai (Ql bT)];exact⟨rfl,rfl⟩)
  (fun os started H enc _=>vJ os started H enc)
theorem topAsking_card:Rows.TopAskingCardSaid:=
 Claim7.holds_tied_plain_at .later [] [.widerDeep] true _ false
  topAsking_holds (fun _ h=>by cases h) bT (fun _ h=>by cases h) topAsking_row_tie rfl ⟨rfl,rfl⟩ bT rfl
  (fun f fn hf hfn=>by
   obtain rfl : f = 5 := Option.some.inj ((show Tryd.prog.funcNamed "winnower/winnowertop.TopAsking" = some 5 by kernel_rfl).symm.trans hf) |>.symm
   obtain rfl:fn=Tryd.f5:=(cY (Tryd.func5.symm.trans hfn)).symm
   exact⟨bT,fun j t ht=>by
    rw [Tryd.params5]at ht
    have hm:t∈[22]:=by simpa using Uc ht
    have hall:([22].all fun u=>!Tryd.prog.wantsStandIn u)=true:=bT
    exact(show Tryd.prog.wantsStandIn t=false by simpa using nK.1 hall t hm)⟩)
  bT
#print axioms topAsking_card
end Go.Proofs.YtmljjfhgciaceaaDoor
